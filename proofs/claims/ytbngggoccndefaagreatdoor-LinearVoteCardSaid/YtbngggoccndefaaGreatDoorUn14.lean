/-
  Laid.
-/
import Derived.Test.YtbngggoccndefaaGreatDoorUn11
set_option maxHeartbeats 16000000
set_option maxRecDepth 100000
set_option linter.all false
namespace Go.Proofs.YtbngggoccndefaaGreatDoor
open Go.Proofs.Tryz
section
namespace Ln
def exT:S:=[53,57,48,49,50,51,52,49,50,51,52,53,55]
def exRow:List Bool:=(Ea.enc 1 exT []).1
def tri (l:List Bool):List Bool:=l.reverse.flatMap fun b=>[b,b,b]
theorem ex_dec:decode exRow=((1,exT,[]),0):=E2
theorem ex_read3:read (tri exRow)=((1,exT,[]),0):=E2
theorem ex_two:read [false,false]=(zero,5):=E2
theorem ex_vote:vote [exRow,[],tri exRow]=((1,exT,[]),2,0):=E2
theorem ex_len:exRow.length=113:=E2
end Ln
end
section
open Go.RowKit
def Gs.tabL:List (List UInt8×(Int×Int)):=[([48,48],(2,18)),([48,49],(2,14)),([48,50],(2,14)),([49,49],(3,6)),([49,50],(3,6)),([49,51],(3,6)),([49,53],(3,6)),([49,54],(3,6)),([49,55],(3,6)),([50,48],(1,2)),([51,48],(4,8)),([51,55],(4,8)),([49,48],(5,20)),([50,49],(5,20)),([50,50],(5,20)),([50,53,52],(5,20)),([56,48,50,48],(5,25)),([50,52,48],(5,30)),([50,52,49],(5,30)),([50,53,48],(5,30)),([50,53,49],(5,30)),([52,48,48],(5,30)),([52,48,49],(5,30)),([52,48,51],(5,30)),([57,48],(5,30))]
def Gs.leB (a b:List UInt8):Bool:=Op.bytesLess a b || a==b
def Gs.rngB (l:List UInt8):Bool:=(!Op.bytesLess l [51,49,48]&&Gs.leB l [51,49,54]) || (!Op.bytesLess l [51,50,48]&&Gs.leB l [51,51,55])
def Gs.tab2 (l:List UInt8):Int×Int:=
 if l.all (fun c=>Cd.isDig c.toNat)=false then(0,0)
 else if l.length=2∧Gs.leB l [57,48]=false then(5,90)
 else if l.length=3∧Op.bytesLess l [52,49,48]=false∧Gs.leB l [52,49,55]=true then(2,13)
 else if l.length=4∧(l.take 3=[51,57,48]∨l.take 3=[51,57,50])then(4,15)
 else if l.length=4∧(l.getD 3 0).toNat<=53∧Gs.rngB (l.take 3)=true then(1,6)
 else(0,0)
def Gs.tab (l:List UInt8):Int×Int:=match Gs.tabL.find? fun p=>p.1==l with
 |some p=>p.2
 |none=>Gs.tab2 l
def Gs.frm (r:Gs.Rule):Int:=if r.1=1 then 2 else if r.1=2 then 3 else if r.1=3 then 5 else if r.2.1=r.2.2.1 then 1 else 4
def Gs.tabO:Option Gs.Rule->Int×Int
 |none=>(0,0)
 |some r=>(Gs.frm r,r.2.2.1)
def Gs.dirL:List (List UInt8×Gs.Rule):=[([48,48],(1,18,18,0)),([50,48],(0,2,2,0)),([56,48,50,48],(3,1,25,0)),([48,49],(1,14,14,0)),([48,50],(1,14,14,0)),([49,49],(2,6,6,0)),([49,50],(2,6,6,0)),([49,51],(2,6,6,0)),([49,53],(2,6,6,0)),([49,54],(2,6,6,0)),([49,55],(2,6,6,0)),([51,49,48],(0,6,6,53)),([51,49,49],(0,6,6,53)),([51,49,50],(0,6,6,53)),([51,49,51],(0,6,6,53)),([51,49,52],(0,6,6,53)),([51,49,53],(0,6,6,53)),([51,49,54],(0,6,6,53)),([51,50,48],(0,6,6,53)),([51,50,49],(0,6,6,53)),([51,50,50],(0,6,6,53)),([51,50,51],(0,6,6,53)),([51,50,52],(0,6,6,53)),([51,50,53],(0,6,6,53)),([51,50,54],(0,6,6,53)),([51,50,55],(0,6,6,53)),([51,50,56],(0,6,6,53)),([51,50,57],(0,6,6,53)),([51,51,48],(0,6,6,53)),([51,51,49],(0,6,6,53)),([51,51,50],(0,6,6,53)),([51,51,51],(0,6,6,53)),([51,51,52],(0,6,6,53)),([51,51,53],(0,6,6,53)),([51,51,54],(0,6,6,53)),([51,51,55],(0,6,6,53)),([52,49,48],(1,13,13,0)),([52,49,49],(1,13,13,0)),([52,49,50],(1,13,13,0)),([52,49,51],(1,13,13,0)),([52,49,52],(1,13,13,0)),([52,49,53],(1,13,13,0)),([52,49,54],(1,13,13,0)),([52,49,55],(1,13,13,0)),([51,48],(0,1,8,0)),([51,55],(0,1,8,0)),([51,57,48],(0,1,15,57)),([51,57,50],(0,1,15,57)),([49,48],(3,1,20,0)),([50,49],(3,1,20,0)),([50,50],(3,1,20,0)),([50,53,52],(3,1,20,0)),([50,52,48],(3,1,30,0)),([50,52,49],(3,1,30,0)),([50,53,48],(3,1,30,0)),([50,53,49],(3,1,30,0)),([52,48,48],(3,1,30,0)),([52,48,49],(3,1,30,0)),([52,48,51],(3,1,30,0)),([57,48],(3,1,30,0)),([57,49],(3,1,90,0)),([57,50],(3,1,90,0)),([57,51],(3,1,90,0)),([57,52],(3,1,90,0)),([57,53],(3,1,90,0)),([57,54],(3,1,90,0)),([57,55],(3,1,90,0)),([57,56],(3,1,90,0)),([57,57],(3,1,90,0))]
theorem qI:Gs.dir=Gs.dirL:=E2
theorem Znp:∀p∈Gs.tabL,Gs.tabO (Gs.find p.1)=p.2:=E2
theorem Zos:Gs.sfx.all (fun a=>Gs.sfx.all fun b=>(Gs.tabL.find? fun p=>p.1== [a,b]).isSome || Gs.tab2 [a,b]==Gs.tabO (Gs.find [a,b]))=true:=by unfold Gs.find Gs.find2;rw[qI];exact E2
theorem Zmb:Gs.sfx.all (fun a=>Gs.sfx.all fun b=>Gs.sfx.all fun c=>(Gs.tabL.find? fun p=>p.1== [a,b,c]).isSome || Gs.tab2 [a,b,c]==Gs.tabO (Gs.find [a,b,c]))=true:=by unfold Gs.find Gs.find2;rw[qI];exact E2
def Gs.four (l:List UInt8) (g:Option Gs.Rule):Bool:=match g with
 |none=> !(l== [51,57,48] || l== [51,57,50])&& !Gs.rngB l
 |some r=>if r.2.2.2=0 then !(l== [51,57,48] || l== [51,57,50])&& !Gs.rngB l
  else if r.2.2.2=57 then(l== [51,57,48] || l== [51,57,50])&&(Gs.tabO (some r)==(4,15))
  else r.2.2.2==53&& !(l== [51,57,48] || l== [51,57,50])&&Gs.rngB l&&(Gs.tabO (some r)==(1,6))
theorem Zm8:Gs.sfx.all (fun a=>Gs.sfx.all fun b=>Gs.sfx.all fun c=>Gs.four [a,b,c] (Gs.get Gs.dir [a,b,c]))=true:=by rw[qI];exact E2
theorem ZkX:∀p∈Gs.dir,p.1.length=4->p.1=[56,48,50,48]:=E2
theorem mM {l:List UInt8} (h:Cd.AllDig l):∀c∈l,c∈Gs.sfx:=fun c hc=>eJ c (h c hc).1 (h c hc).2
theorem JE {l:List UInt8} (h:l.all (fun c=>Cd.isDig c.toNat)=true):Cd.AllDig l:=by intro c hc;have:=U1.1 h c hc;simp[Cd.isDig]at this;omega
theorem ZlV (l:List UInt8) (hl:l.length=4) (hd:Cd.AllDig l) (hn:l≠ [56,48,50,48]):Gs.tab2 l=Gs.tabO (Gs.find l):=by
 have hall:l.all (fun c=>Cd.isDig c.toNat)=true:=by rw[U1];intro c hc;have:=hd c hc;simp[Cd.isDig];omega
 match l,hl with
 | [a,b,c,d],_=>
  have m:=mM hd
  have h4:=Zm8
  simp only[U1]at h4
  have h4:=h4 a (m a L0) b (m b L0) c (m c L0)
  have hdd:=hd d L0
  have g0:Gs.get Gs.dir [a,b,c,d]=none:=by
   cases hg:Gs.get Gs.dir [a,b,c,d]with
   |none=>rfl
   |some r=>exact absurd (ZkX _ (SQ hg) rfl) hn
  have hf:Gs.find [a,b,c,d]=Gs.find2 [a,b,c,d]:=by unfold Gs.find;rw[g0];rfl
  rw[hf]
  unfold Gs.tab2 Gs.find2
  rw[hall]
  have t3: [a,b,c,d].take 3=[a,b,c]:=rfl
  have t4: [a,b,c,d].take ([a,b,c,d].length-1)=[a,b,c]:=rfl
  have g3: [a,b,c,d].getD 3 0=d:=rfl
  have g4: [a,b,c,d].getD ([a,b,c,d].length-1) 0=d:=rfl
  rw[t4,g4,t3,g3]
  rw[C0 L0,C0 L0,C0 L0]
  cases hg:Gs.get Gs.dir [a,b,c]with
  |none=>rw[hg]at h4;simp only[Gs.four,M2,JF,YT,N0]at h4;rw[C0 (fun h=>h.2.elim h4.1.1 h4.1.2),C0 (fun h=>by rw[h4.2]at h;exact Bool.noConfusion h.2.2)];rfl
  |some r=>rw[hg]at h4;dsimp only;simp only[Gs.four]at h4;split at h4;(·rename_i h0;simp only[M2,JF,YT,N0]at h4;rw[C0 (fun h=>h.2.elim h4.1.1 h4.1.2),C0 (fun h=>by rw[h4.2]at h;exact Bool.noConfusion h.2.2),D0 (.inl h0)];rfl);·rename_i h0;split at h4;(·rename_i h57;simp only[M2,B7,Y0]at h4;rw[D0 ⟨rfl,h4.1⟩,C0,h4.2];rw[h57,Y7,Y7];have e1:(48:UInt8).toNat=48:=rfl;have e2:(57:UInt8).toNat=57:=rfl;have e3:(57:UInt8)≠0:=I0;rw[e1,e2];intro h;rcases h with h|h|h;(·exact e3 h);(·omega);·omega);·simp only[M2,JF,YT,N0,Y0]at h4;obtain⟨⟨⟨h53,hno⟩,hr⟩,hv⟩:=h4;rw[C0 (fun h=>h.2.elim hno.1 hno.2)];have e1:(48:UInt8).toNat=48:=rfl;have e2:(53:UInt8).toNat=53:=rfl;by_cases h5:d.toNat<=53;(·rw[D0 ⟨rfl,h5,hr⟩,C0,hv];rw[h53,Y7,Y7,e1,e2];intro h;rcases h with h|h|h;(·exact absurd h I0);(·omega);·omega);·rw[C0 (fun h=>h5 h.2.1),D0];rfl;rw[h53,Y7,Y7,e1,e2];exact .inr (.inr B0)
theorem Zoq (l:List UInt8):Gs.tab l=Gs.tabO (Gs.find l):=by
 unfold Gs.tab
 cases hf:Gs.tabL.find? fun p=>p.1==l with
 |some p=>have h1:=OZ hf;have h2:=VP hf;have h3:p.1=l:=B8;dsimp only;rw[<-h3,Znp p h1]
 |none=>
  dsimp only;by_cases hd:l.all (fun c=>Cd.isDig c.toNat)=true
  ·have hdd:=JE hd;have m:=mM hdd;by_cases hl:l.length=2∨l.length=3∨l.length=4
   ·rcases hl with hl|hl|hl
    ·match l,hl with
     | [a,b],_=>have h2:=Zos;simp only[U1]at h2;have h2:=h2 a (m a L0) b (m b L0);rw[hf]at h2;exact B8
    ·match l,hl with
     | [a,b,c],_=>have h2:=Zmb;simp only[U1]at h2;have h2:=h2 a (m a L0) b (m b L0) c (m c L0);rw[hf]at h2;exact B8
    ·refine ZlV l hl hdd (fun e=> ?_);rw[e]at hf;exact absurd hf I0
   ·have hn:Gs.find l=none:=by
     cases hg:Gs.find l with
     |none=>rfl
     |some r=>have:=V9 hg;omega
    rw[hn];unfold Gs.tab2;rw[hd,C0 L0,C0 (fun h=>hl (.inl h.1)),C0 (fun h=>hl (.inr (.inl h.1))),C0 (fun h=>hl (.inr (.inr h.1))),C0 (fun h=>hl (.inr (.inr h.1)))];rfl
  ·have hd':l.all (fun c=>Cd.isDig c.toNat)=false:=(by simpa using hd);have hn:Gs.find l=none:=by
    cases hg:Gs.find l with
    |none=>rfl
    |some r=>refine absurd ?_ hd;rw[U1];intro c hc;have:=(V9 hg).2.2.1 c hc;simp[Cd.isDig];omega
   rw[hn];unfold Gs.tab2;rw[D0 hd'];rfl
theorem PV (c:Int) (w:World):
 Calls prog 208 #[.int .u8 c] w fun e w'=>e=.returned (.bool (Cd.isDig c))∧w=w':=by
 go_enter func208,ntmps208
 go_wp2
 ·exact OO
 ·exact OP
theorem qJ (s:ByteArray) (p:UInt8->Bool) (k:Nat) (h:k<s.size):(s.data.toList.take (k+1)).all p=((s.data.toList.take k).all p&&p s[k]):=by rw[ZF s k h,BE];simp
theorem qK (s:ByteArray) (p:UInt8->Bool) (k:Nat) (h:k<s.size) (hp:p s[k]=false):s.data.toList.all p=false:=dD
theorem Ziv (s:ByteArray) (hs:s.size<=maxLen) (w:World):
 Calls prog 249 #[.string s] w fun e w'=>e=.returned (.bool (s.data.toList.all (fun c=>Cd.isDig c.toNat)))∧w=w':=by
 have hmx:s.size<=9223372036854775807:=hs
 clear hs
 have HR:=A0 (Eq.refl (s.data.toList.all (fun c=>Cd.isDig c.toNat)))
 generalize hres:s.data.toList.all (fun c=>Cd.isDig c.toNat)=res
 have HRES:=A0 hres
 clear hres HR
 go_enter func249,ntmps249
 go_wp2
 go_loop [3] (fun i=>∃k:Nat,k<=s.size∧i=.int .i64 (k:Int)∧Hid ((s.data.toList.take k).all (fun c=>Cd.isDig c.toNat)=true)) (fun i=>s.size-(intOf i).toNat)
 case atStart=>exact X4
 case round=>obtain⟨k,hk,rfl,hal⟩:=hrel;by_cases hlt:k<s.size;(·have HA:=A0 (qJ s (fun c=>Cd.isDig c.toNat) k hlt);have HN:=A0 (qK s (fun c=>Cd.isDig c.toNat) k hlt);cases hp:Cd.isDig (s[k].toNat:Int);(·have HP:=A0 hp;have HF:Hid (res=false):=A0 (by rw[<-HRES.out];exact HN.out hp);clear hp HA HN;go_wp2_with fail;refine(PV _ _).mono ?_;rintro e w' ⟨rfl,rfl⟩;rw[HP.out];exact YU);·have HP:=A0 hp;have HO:Hid ((s.data.toList.take (k+1)).all (fun c=>Cd.isDig c.toNat)=true):=A0 qL;clear hp HA HN;go_wp2_with fail;refine(PV _ _).mono ?_;rintro e w' ⟨rfl,rfl⟩;rw[HP.out];exact RP);·obtain rfl:k=s.size:=B0;have HF:Hid (res=true):=A0 (by rw[<-HRES.out,<-hal.out,Z3]);clear hk hlt hal;exact YU
def JG (s:ByteArray):Prop:=(s.toList== [48,48])=false∧(s.toList== [48,49])=false∧(s.toList== [48,50])=false∧(s.toList== [49,49])=false∧(s.toList== [49,50])=false∧(s.toList== [49,51])=false∧(s.toList== [49,53])=false∧(s.toList== [49,54])=false∧(s.toList== [49,55])=false∧(s.toList== [50,48])=false∧(s.toList== [51,48])=false∧(s.toList== [51,55])=false∧(s.toList== [49,48])=false∧(s.toList== [50,49])=false∧(s.toList== [50,50])=false∧(s.toList== [50,53,52])=false∧(s.toList== [56,48,50,48])=false∧(s.toList== [50,52,48])=false∧(s.toList== [50,52,49])=false∧(s.toList== [50,53,48])=false∧(s.toList== [50,53,49])=false∧(s.toList== [52,48,48])=false∧(s.toList== [52,48,49])=false∧(s.toList== [52,48,51])=false∧(s.toList== [57,48])=false
theorem Zlu (s:ByteArray) (h:(Gs.tabL.find? fun p=>p.1==s.data.toList)=none):JG s:=by rw[KW]at h;simp only[Gs.tabL,V3,D8,E8,forall_eq_or_imp,forall_eq,Y0]at h;obtain⟨h00,h01,h02,h11,h12,h13,h15,h16,h17,h20,h30,h37,h10,h21,h22,h254,h8020,h240,h241,h250,h251,h400,h401,h403,h90⟩:=h;unfold JG;rw[C2];exact⟨N0.2 (fun e=>h00 e.symm),N0.2 (fun e=>h01 e.symm),N0.2 (fun e=>h02 e.symm),N0.2 (fun e=>h11 e.symm),N0.2 (fun e=>h12 e.symm),N0.2 (fun e=>h13 e.symm),N0.2 (fun e=>h15 e.symm),N0.2 (fun e=>h16 e.symm),N0.2 (fun e=>h17 e.symm),N0.2 (fun e=>h20 e.symm),N0.2 (fun e=>h30 e.symm),N0.2 (fun e=>h37 e.symm),N0.2 (fun e=>h10 e.symm),N0.2 (fun e=>h21 e.symm),N0.2 (fun e=>h22 e.symm),N0.2 (fun e=>h254 e.symm),N0.2 (fun e=>h8020 e.symm),N0.2 (fun e=>h240 e.symm),N0.2 (fun e=>h241 e.symm),N0.2 (fun e=>h250 e.symm),N0.2 (fun e=>h251 e.symm),N0.2 (fun e=>h400 e.symm),N0.2 (fun e=>h401 e.symm),N0.2 (fun e=>h403 e.symm),N0.2 (fun e=>h90 e.symm)⟩
def TabR (r:Int×Int) (w:World) (e:Ending) (w':World):Prop:=e=.returned (.tuple #[.int .i64 r.1,.int .i64 r.2])∧Ext w w'
theorem ZoU (s:ByteArray):(s.extract 0 3).toList=s.data.toList.take 3:=by rw[C2,Zy]
theorem ZlW (s:ByteArray) (hs:s.size<=maxLen) (w:World) (h:JG s):
 Calls prog 206 #[.string s] w (TabR (Gs.tab2 s.data.toList) w):=by
 have HD:=A0 (Ziv s hs w)
 have HT:=A0 (Gs.tab2.eq_1 s.data.toList)
 generalize Gs.tab2 s.data.toList=res at*
 unfold JG at h
 obtain⟨h00,h01,h02,h11,h12,h13,h15,h16,h17,h20,h30,h37,h10,h21,h22,h254,h8020,h240,h241,h250,h251,h400,h401,h403,h90⟩:=h
 rw[Zd]at HT
 cases hdd:s.data.toList.all (fun c=>Cd.isDig c.toNat)
 ·rw[hdd]at HD HT;have HR:Hid (res=(0,0)):=A0 (by rw[HT.out,D0 rfl]);clear HT hdd;exact QD
 ·rw[hdd]at HD HT;have HT1:=A0 (HT.out.trans (C0 L0));clear HT hdd;by_cases h2:s.size=2;(·have i2:((s.size:Int)==2)=true:=(by rw[h2];rfl);have i3:((s.size:Int)==3)=false:=(by rw[h2];rfl);have i4:((s.size:Int)==4)=false:=(by rw[h2];rfl);cases hb:Gs.leB s.data.toList [57,48];(·have HR:Hid (res=(5,90)):=A0 (by rw[HT1.out,D0 ⟨h2,hb⟩]);unfold Gs.leB at hb;rw[<-C2,YT]at hb;obtain⟨j1,j2⟩:=hb;clear HT1 h2;exact QD);·have HR:Hid (res=(0,0)):=A0 (by rw[HT1.out,C0 (by rw[hb];simp),C0 B0,C0 B0,C0 B0]);unfold Gs.leB at hb;rw[<-C2]at hb;clear HT1 h2;go_enter func206,ntmps206;go_wp2_with fail;refine HD.out.mono ?_;rintro e w' ⟨rfl,rfl⟩;cases hlt:Op.bytesLess s.toList [57,48];(·rw[hlt,Bool.false_or,h90]at hb;exact Bool.noConfusion hb);·clear hb;exact mN);by_cases h3:s.size=3;(·have i2:((s.size:Int)==2)=false:=(by rw[h3];rfl);have i3:((s.size:Int)==3)=true:=(by rw[h3];rfl);have i4:((s.size:Int)==4)=false:=(by rw[h3];rfl);cases hb1:Op.bytesLess s.data.toList [52,49,48];(·cases hb:Gs.leB s.data.toList [52,49,55];(·have HR:Hid (res=(0,0)):=A0 (by rw[HT1.out,C0 B0,C0 (by rw[hb];simp),C0 B0,C0 B0]);unfold Gs.leB at hb;rw[<-C2]at hb hb1;rw[YT]at hb;obtain⟨j1,j2⟩:=hb;clear HT1 h2 h3;exact QD);·have HR:Hid (res=(2,13)):=A0 (by rw[HT1.out,C0 B0,D0 ⟨h3,hb1,hb⟩]);unfold Gs.leB at hb;rw[<-C2]at hb hb1;clear HT1 h2 h3;cases hlt:Op.bytesLess s.toList [52,49,55];(·rw[hlt,Bool.false_or]at hb;exact QD);·clear hb;exact QD);·have HR:Hid (res=(0,0)):=A0 (by rw[HT1.out,C0 B0,C0 (by rw[hb1];simp),C0 B0,C0 B0]);rw[<-C2]at hb1;clear HT1 h2 h3;exact QD);by_cases h4:s.size=4;(·have i2:((s.size:Int)==2)=false:=(by rw[h4];rfl);have i3:((s.size:Int)==3)=false:=(by rw[h4];rfl);have i4:((s.size:Int)==4)=true:=(by rw[h4];rfl);have hs3:3<s.size:=B0;obtain⟨X,hX⟩:∃X,s.extract 0 3=X:=⟨_,rfl⟩;have HX:Hid (s.data.toList.take 3=X.toList):=A0 (by rw[<-hX,ZoU]);rw[HX.out,gdat s 3 hs3]at HT1;have HT2:=A0 (HT1.out.trans ((C0 B0).trans (C0 B0)));obtain⟨c,hc⟩:∃c,s[3]=c:=⟨_,rfl⟩;rw[hc]at HT2;clear HT1 h2 h3 HX;cases e0:X.toList== [51,57,48];(·cases e2:X.toList== [51,57,50];(·have HT3:=A0 (HT2.out.trans (C0 (fun h=>h.2.elim (fun e=>by rw[e]at e0;exact absurd e0 I0) (fun e=>by rw[e]at e2;exact absurd e2 I0))));clear HT2;by_cases h5:c.toNat<=53;(·have HRB:=A0 (Gs.rngB.eq_1 X.toList);unfold Gs.leB at HRB;have HT4:Hid (res=if Gs.rngB X.toList=true then(1,6)else(0,0)):=A0 (by rw[HT3.out];by_cases hr:Gs.rngB X.toList=true;(·rw[D0 ⟨h4,h5,hr⟩,D0 hr]);·rw[C0 (fun h=>hr h.2.2),C0 hr]);clear HT3;generalize Gs.rngB X.toList=rb at*;have h5i:(c.toNat:Int)<=53:=B0;cases l1:Op.bytesLess X.toList [51,49,48];(·cases l2:Op.bytesLess X.toList [51,49,54];(·cases q2:X.toList== [51,49,54];(·cases l3:Op.bytesLess X.toList [51,50,48];(·cases l4:Op.bytesLess X.toList [51,51,55];(·cases q4:X.toList== [51,51,55];(·have HR:Hid (res=(0,0)):=A0 mO;exact O8);·have HR:Hid (res=(1,6)):=A0 mO;exact O8);·have HR:Hid (res=(1,6)):=A0 (by rw[HT4.out,HRB.out,l1,l2,q2,l3,l4];rfl);exact O8);·have HR:Hid (res=(0,0)):=A0 (by rw[HT4.out,HRB.out,l1,l2,q2,l3];rfl);exact O8);·have HR:Hid (res=(1,6)):=A0 (by rw[HT4.out,HRB.out,l1,l2,q2];rfl);exact O8);·have HR:Hid (res=(1,6)):=A0 (by rw[HT4.out,HRB.out,l1,l2];rfl);exact O8);·cases l3:Op.bytesLess X.toList [51,50,48];(·cases l4:Op.bytesLess X.toList [51,51,55];(·cases q4:X.toList== [51,51,55];(·have HR:Hid (res=(0,0)):=A0 (by rw[HT4.out,HRB.out,l1,l3,l4,q4];rfl);exact O8);·have HR:Hid (res=(1,6)):=A0 (by rw[HT4.out,HRB.out,l1,l3,l4,q4];rfl);exact O8);·have HR:Hid (res=(1,6)):=A0 (by rw[HT4.out,HRB.out,l1,l3,l4];rfl);exact O8);·have HR:Hid (res=(0,0)):=A0 (by rw[HT4.out,HRB.out,l1,l3];rfl);exact O8);·have HR:Hid (res=(0,0)):=A0 (by rw[HT3.out,C0 (fun h=>h5 h.2.1)]);have h5i:¬((c.toNat:Int)<=53):=B0;have h5j:(53:Int)<(c.toNat:Int):=B0;clear HT3 h4 h5;exact QD);·have HR:Hid (res=(4,15)):=A0 (by rw[HT2.out,D0 ⟨h4,.inr (by simpa using e2)⟩]);clear HT2 h4;exact QD);·have HR:Hid (res=(4,15)):=A0 (by rw[HT2.out,D0 ⟨h4,.inl (by simpa using e0)⟩]);clear HT2 h4;exact QD);·have i2:((s.size:Int)==2)=false:=O2;have i3:((s.size:Int)==3)=false:=O2;have i4:((s.size:Int)==4)=false:=O2;have HR:Hid (res=(0,0)):=A0 (by rw[HT1.out,C0 B0,C0 B0,C0 B0,C0 B0]);clear HT1 h2 h3 h4;exact QD
theorem Zkw (s:ByteArray) (w:World) (p:List UInt8×(Int×Int)) (h1:p∈Gs.tabL) (h2:p.1=s.data.toList):
 Calls prog 206 #[.string s] w (TabR p.2 w):=by
 have HR:True:=trivial
 simp only[Gs.tabL,V3,D8,E8]at h1
 rcases h1 with rfl|rfl|rfl|rfl|rfl|rfl|rfl|rfl|rfl|rfl|rfl|rfl|rfl|rfl|rfl|rfl|rfl|rfl|rfl|rfl|rfl|rfl|rfl|rfl|rfl
 ·have hs0:s=⟨#[48,48]⟩:=Zl h2.symm;exact QM
 ·have hs0:s=⟨#[48,49]⟩:=Zl h2.symm;exact QM
 ·have hs0:s=⟨#[48,50]⟩:=Zl h2.symm;exact QM
 ·have hs0:s=⟨#[49,49]⟩:=Zl h2.symm;exact QM
 ·have hs0:s=⟨#[49,50]⟩:=Zl h2.symm;exact QM
 ·have hs0:s=⟨#[49,51]⟩:=Zl h2.symm;exact QM
 ·have hs0:s=⟨#[49,53]⟩:=Zl h2.symm;exact QM
 ·have hs0:s=⟨#[49,54]⟩:=Zl h2.symm;exact QM
 ·have hs0:s=⟨#[49,55]⟩:=Zl h2.symm;exact QM
 ·have hs0:s=⟨#[50,48]⟩:=Zl h2.symm;exact QM
 ·have hs0:s=⟨#[51,48]⟩:=Zl h2.symm;exact QM
 ·have hs0:s=⟨#[51,55]⟩:=Zl h2.symm;exact QM
 ·have hs0:s=⟨#[49,48]⟩:=Zl h2.symm;exact QM
 ·have hs0:s=⟨#[50,49]⟩:=Zl h2.symm;exact QM
 ·have hs0:s=⟨#[50,50]⟩:=Zl h2.symm;exact QM
 ·have hs0:s=⟨#[50,53,52]⟩:=Zl h2.symm;exact QM
 ·have hs0:s=⟨#[56,48,50,48]⟩:=Zl h2.symm;exact QM
 ·have hs0:s=⟨#[50,52,48]⟩:=Zl h2.symm;exact QM
 ·have hs0:s=⟨#[50,52,49]⟩:=Zl h2.symm;exact QM
 ·have hs0:s=⟨#[50,53,48]⟩:=Zl h2.symm;exact QM
 ·have hs0:s=⟨#[50,53,49]⟩:=Zl h2.symm;exact QM
 ·have hs0:s=⟨#[52,48,48]⟩:=Zl h2.symm;exact QM
 ·have hs0:s=⟨#[52,48,49]⟩:=Zl h2.symm;exact QM
 ·have hs0:s=⟨#[52,48,51]⟩:=Zl h2.symm;exact QM
 ·have hs0:s=⟨#[57,48]⟩:=Zl h2.symm;exact QM
theorem qM (s:ByteArray) (hs:s.size<=maxLen) (w:World):Calls prog 206 #[.string s] w (TabR (Gs.tabO (Gs.find s.data.toList)) w):=by
 rw[<-Zoq]
 unfold Gs.tab
 cases hf:Gs.tabL.find? fun p=>p.1==s.data.toList with
 |none=>exact ZlW s hs w (Zlu s hf)
 |some p=>exact Zkw s w p (OZ hf) (by simpa using VP hf)
theorem mP:∀p∈Gs.dir,p.2.1=0->(p.2.2.1=p.2.2.2.1∨p.2.2.1=1):=E2
theorem ZkS {l:List UInt8} {r:Gs.Rule} (h:Gs.find l=some r) (h0:r.1=0):r.2.1=r.2.2.1∨r.2.1=1:=by
 rcases BW h with⟨h1,_⟩|⟨k,c,_,h1,_⟩;·exact mP _ h1 h0
 ·exact mP _ h1 h0
theorem qN {r:Gs.Rule} (h:Gs.RuleOk r):1<=Gs.frm r∧Gs.frm r<=5∧(Gs.isFix r=true↔(Gs.frm r≠4∧Gs.frm r≠5)):=by
 obtain⟨k0,k3,l1,lh,h9,h2,h1,h3⟩:=h;unfold Gs.frm Gs.isFix;rw[Y0];by_cases c1:r.1=1;·rw[D0 c1];have:=h1 c1;exact PW
 ·rw[C0 c1];by_cases c2:r.1=2;(·rw[D0 c2];have:=h2 c2;exact PW);·rw[C0 c2];by_cases c3:r.1=3;(·rw[D0 c3];have:=h3 c3;exact PW);·rw[C0 c3];by_cases c4:r.2.1=r.2.2.1;(·rw[D0 c4];exact PW);·rw[C0 c4];exact PW
theorem mQ (s:ByteArray) (hs:s.size<=maxLen) (w:World):
 Calls prog 136 #[.string s] w fun e w'=>e=.returned (.tuple #[.int .i64 (Gs.fixF s.data.toList).1,.int .i64 (Gs.fixF s.data.toList).2.1,.int .i64 (Gs.fixF s.data.toList).2.2])∧Ext w w':=by
 have HT:=A0 (qM s hs w)
 have HF:=A0 (Gs.fixF.eq_1 s.data.toList)
 generalize Gs.fixF s.data.toList=res at*
 obtain⟨r1,r2,r3⟩:=res
 cases hg:Gs.find s.data.toList with
 |none=>rw[hg]at HF HT;dsimp only[Gs.tabO]at HF HT;have hr:=HF.out;simp only[N3]at hr;obtain⟨rfl,rfl,rfl⟩:=hr;clear hg HF;exact JH
 |some r=>rw[hg]at HF HT;dsimp only[Gs.tabO]at HF HT;obtain⟨f1,f5,ff⟩:=qN (XP hg);have hr:=HF.out;simp only[N3]at hr;obtain⟨hr1,rfl,rfl⟩:=hr;generalize Gs.frm r=fm at*;generalize r.2.2.1=mo at*;have g0:(fm==0)=false:=O2;have HR1:=A0 hr1;clear hg HF hr1;by_cases h4:fm=4;(·have HZ:Hid (r1=0):=A0 (by rw[HR1.out,C0 (fun h=>(ff.1 h).1 h4)]);obtain rfl:=HZ.out;subst h4;clear ff HR1 HZ;exact JH);·by_cases h5:fm=5;(·have HZ:Hid (r1=0):=A0 (by rw[HR1.out,C0 (fun h=>(ff.1 h).2 h5)]);obtain rfl:=HZ.out;subst h5;clear ff HR1 HZ;exact JH);·have HZ:Hid (r1=mo):=A0 (by rw[HR1.out,D0 (ff.2 ⟨h4,h5⟩)]);have g4:(fm==4)=false:=OA;have g5:(fm==5)=false:=OB;obtain rfl:=HZ.out;clear ff HR1 HZ h4 h5;exact JH
theorem ZnD (c:UInt8):∀l:List UInt8,(∀i,i<l.length->l.getD i 0≠c)->Lib.indexByte l c= -1:=by
 intro l
 induction l with
 |nil=>intro _;rfl
 |cons b l ih=>intro h;have h0:=h 0 L0;have hb:(b==c)=false:=VQ;have:=ih (fun i hi=>by have:=h (i+1) N4;simpa using this);simp[Lib.indexByte,hb,this]
theorem ZmD (c:UInt8):∀(l:List UInt8) (i:Nat),i<l.length->l.getD i 0=c->0<=Lib.indexByte l c:=by
 intro l
 induction l with
 |nil=>intro i h;simp at h
 |cons b l ih=>
  intro i hi h;unfold Lib.indexByte;split;(·exact Int.le_refl _)
  ·rename_i hb
   cases i with
   |zero=>simp at h;rw[h]at hb;simp at hb
   |succ i=>have:=ih i WY M5;split;(·rename_i h1;simp at h1;omega);·omega
def symB:ByteArray:=⟨#[33,34,37,38,39,42,43,44,45,46,47,58,59,60,61,62,63,95]⟩
theorem mR (c:UInt8) (w:World):
 Calls prog 207 #[.int .u8 (c.toNat:Int)] w fun e w'=>e=.returned (.bool (Cd.isDig c.toNat || Gs.charB c))∧w=w':=by
 have HC:=A0 (Gs.charB.eq_1 c)
 have HNO:Hid ((∀i,i<18->symB.data.toList.getD i 0≠c)->Lib.indexByte Gs.symbols c= -1):=A0 (fun h=>ZnD c Gs.symbols h)
 have HYES:Hid (∀i,i<18->symB.data.toList.getD i 0=c->0<=Lib.indexByte Gs.symbols c):=A0 (fun i hi h=>ZmD c Gs.symbols i hi h)
 generalize Gs.charB c=cb at*
 generalize Lib.indexByte Gs.symbols c=x at*
 have HD:=A0 (PV (c.toNat:Int) w)
 cases hd:Cd.isDig c.toNat
 ·rw[hd]at HD;by_cases h1:65<=c.toNat∧c.toNat<=90;(·obtain⟨n1,n2⟩:=h1;have HR:Hid (cb=true):=A0 (by rw[HC.out,V0 n1,V0 n2];rfl);clear HC HNO HYES hd;exact mT);have e1:(decide (65<=c.toNat)&&decide (c.toNat<=90))=false:=OX;by_cases h2:97<=c.toNat∧c.toNat<=122;(·obtain⟨n1,n2⟩:=h2;have n3:90<c.toNat:=B0;have n4:65<=c.toNat:=B0;have HR:Hid (cb=true):=A0 (by rw[HC.out,e1,V0 n1,V0 n2];rfl);clear HC HNO HYES hd e1 h1;exact mT);have e2:(decide (97<=c.toNat)&&decide (c.toNat<=122))=false:=OX;have HR:Hid (cb=decide (0<=x)):=A0 (by rw[HC.out,e1,e2];rfl);have hn:c.toNat<65∨(90<c.toNat∧c.toNat<97)∨122<c.toNat:=B0;clear HC e1 e2 h1 h2 hd;have key:∀(A:World),A=w->(65<=c.toNat->90<c.toNat)->(97<=c.toNat->122<c.toNat)->True:=fun _ _ _ _=>trivial;clear key;rcases hn with hn|⟨hn,hn2⟩|hn;(·have m1:c.toNat<65:=hn;have m2:c.toNat<97:=B0;clear hn;exact Qv);(·have m1:65<=c.toNat:=B0;exact Qv);·have m1:65<=c.toNat:=B0;have m2:90<c.toNat:=B0;have m3:97<=c.toNat:=B0;exact Qv
 ·rw[hd]at HD;clear HC HNO HYES;go_enter func207,ntmps207;go_wp2_with fail;refine HD.out.mono ?_;rintro e w' ⟨rfl,rfl⟩;exact C6
theorem Zh2 (s:ByteArray) (hs:2<=s.size) (hd:Cd.AllDig s.data.toList) (w:World) (hm:s.size<=1000):
 Calls prog 250 #[.string s] w fun e w'=>e=.returned (.int .i64 (Gs.num2 s.data.toList 0))∧Ext w w':=by
 have HN:=A0 (Gs.num2.eq_1 s.data.toList 0)
 have h0:0<s.size:=by omega
 have h1:1<s.size:=by omega
 have hi0:(0:Int)<(s.size:Int):=by omega
 have hi1:(1:Int)<(s.size:Int):=by omega
 rw[gdat s 0 h0,gdat s (0+1) h1]at HN
 generalize Gs.num2 s.data.toList 0=N at*
 obtain⟨a1,a2⟩:=hd _ (Zn s 0 h0)
 obtain⟨a3,a4⟩:=hd _ (Zn s 1 h1)
 replace HN:Hid (N=10*Cd.dg s[0]+Cd.dg s[1]):=A0 HN.out
 clear hd
 go_enter func250,ntmps250
 go_wp2
 go_quiet (fail)
 go_wp2
 go_ret
 exact⟨Z1 (by rw[HN.out];simp[Cd.dg]),Xf⟩
theorem ZjO (l:List UInt8) (k n:Nat) (h:k+1<l.length) (hn:2<=n):Gs.num2 ((l.drop k).take n) 0=Gs.num2 l k:=by
 unfold Gs.num2;have e:∀i,i<n->((l.drop k).take n).getD i 0=l.getD (k+i) 0:=by intro i hi;rw[U0,U0,W6,D0 hi,RK]
 rw[e 0 B0,e (0+1) B0];rfl
theorem Zmx {l:List UInt8} (h:Cd.AllDig l) (k n:Nat):Cd.AllDig ((l.drop k).take n):=fun c hc=>h c (M6 (G4 hc))
theorem Zkc (s:ByteArray) (hs:s.size=6) (hd:Cd.AllDig s.data.toList) (w:World):
 Calls prog 209 #[.string s] w fun e w'=>e=.returned (.bool (Gs.dateB s.data.toList))∧Ext w w':=by
 have hl:s.data.toList.length=6:=by rw[Zd];exact hs
 obtain⟨y0,y9⟩:=VN hd (k:=0) B0
 obtain⟨m0,m9⟩:=VN hd (k:=2) B0
 obtain⟨d0,d9⟩:=VN hd (k:=4) B0
 have sub:∀a b:Nat,a+2<=b->b<=6->∀w,Calls prog 250 #[.string (s.extract a b)] w fun e w'=>e=.returned (.int .i64 (Gs.num2 s.data.toList a))∧Ext w w':=by intro a b hab hb w;have:=Zh2 (s.extract a b) YD (by rw[Z0];exact Zmx hd a (b-a)) w YD;rw[Z0,ZjO _ _ _ B0 B0]at this;exact F3
 have H0:=A0 (sub 0 2 B0 B0)
 have H2:=A0 (sub 2 4 B0 B0)
 have H4:=A0 (sub 4 6 B0 B0)
 have HB:=A0 (Gs.dateB.eq_1 s.data.toList)
 generalize Gs.dateB s.data.toList=res at*
 generalize Gs.num2 s.data.toList 0=y at*
 generalize Gs.num2 s.data.toList 2=m at*
 generalize Gs.num2 s.data.toList 4=d at*
 have hs4:4<=s.size:=by omega
 have hs6:s.size<=6:=by omega
 have HS:=A0 hs
 have HE4:Hid (s.extract 4 s.size=s.extract 4 6):=A0 (by rw[hs])
 clear hl hs hd sub
 by_cases hm1:m<1
 ·have HR:Hid (res=false):=A0 (by rw[HB.out,Gs.dateOf,D0 (.inl hm1)]);clear HB;exact mU
 by_cases hm2:12<m
 ·have HR:Hid (res=false):=A0 (by rw[HB.out,Gs.dateOf,D0 (.inr hm2)]);have hm3:1<=m:=B0;clear HB hm1;exact mU
 have HR:Hid (res=decide (d<=Gs.days.getD (m-1).toNat 0+(if m=2∧y%4=0 then 1 else 0))):=A0 (by rw[HB.out,Gs.dateOf,C0 B0])
 have hmm:m=1∨m=2∨m=3∨m=4∨m=5∨m=6∨m=7∨m=8∨m=9∨m=10∨m=11∨m=12:=by omega
 clear HB hm1 hm2 m0 m9
 rcases hmm with rfl|hmm
 ·replace HR:Hid (res=decide (d<=31)):=A0 HR.out;clear H0;go_enter func209,ntmps209;go_wp2_with fail;refine(H2.out _).mono ?_;rintro e w1 ⟨rfl,hx1⟩;go_wp2_with fail;rw[HE4.out];refine(H4.out _).mono ?_;rintro e w2 ⟨rfl,hx2⟩;exact OY
 rcases hmm with rfl|hmm
 ·have HR1:Hid (res=decide (d<=28+(if(2:Int)=2∧y%4=0 then 1 else 0))):=A0 HR.out;clear HR;by_cases hy:y%4=0;(·have HR:Hid (res=decide (d<=29)):=A0 (by rw[HR1.out,D0 ⟨rfl,hy⟩];rfl);exact mV);·have HR:Hid (res=decide (d<=28)):=A0 (by rw[HR1.out,C0 (fun h=>hy h.2)];rfl);have hy1:(y%4==0)=false:=(by simpa using hy);exact mV
 rcases hmm with rfl|rfl|rfl|rfl|rfl|rfl|rfl|rfl|rfl|rfl
 all_goals replace HR:Hid (res=decide (d<=_)):=A0 HR.out;clear H0;go_enter func209,ntmps209;go_wp2_with fail;refine(H2.out _).mono ?_;rintro e w1 ⟨rfl,hx1⟩;go_wp2_with fail;rw[HE4.out];refine(H4.out _).mono ?_;rintro e w2 ⟨rfl,hx2⟩;go_wp2;go_ret;exact⟨Zm HR.out.symm,Xf⟩
theorem mW (l:List UInt8) (h:Cd.AllDig l):0<=(Cd.gsF l).1∧(Cd.gsF l).1<=27*l.length:=by
 induction l with
 |nil=>simp[Cd.gsF]
 |cons c l ih=>have h1:=ih (fun x hx=>h x (V2 _ hx));have h2:=Cd.dg_bd (h c (N2 ..));have h3:=Cd.gsF_w l;simp only[Cd.gsF,D1];split at h3<;>rw[h3]<;>omega
theorem Zn8 (l:List UInt8):(Cd.gsF l).2=1∨(Cd.gsF l).2=3:=by have:=Cd.gsF_w l;split at this<;>omega
theorem ZgD (s:ByteArray) (h2:1<=s.size) (h100:s.size<=100) (hd:Cd.AllDig s.data.toList) (w:World):
 Calls prog 210 #[.string s] w fun e w'=>e=.returned (.bool (decide ((Cd.gsF s.data.toList).1%10=0)))∧w=w':=by
 have HD:=A0 hd
 have HRES:=A0 (Eq.refl (decide ((Cd.gsF s.data.toList).1%10=0)))
 generalize hres:decide ((Cd.gsF s.data.toList).1%10=0)=res at*
 have HR:=A0 hres
 clear hd hres HRES
 obtain⟨n,hn⟩:∃n,s.size=n+1:=⟨s.size-1,by omega⟩
 have hni:(s.size:Int)-1=(n:Int):=by omega
 have HN:=A0 hn
 have hns:n<s.size:=by omega
 clear hn
 go_enter func210,ntmps210
 go_wp2
 go_loop [3,4,5] (fun a b i=>∃x y:Int,a=.int .i64 x∧b=.int .i64 y∧((∃j:Nat,j<s.size∧i=.int .i64 (j:Int)∧Hid ((x,y)=Cd.gsF (s.data.toList.drop (j+1))))∨(i=.int .i64 (-1)∧Hid ((x,y)=Cd.gsF s.data.toList)))) (fun _ _ i=>(intOf i+1).toNat)
 case atStart=>exact⟨0,1,rfl,rfl,.inl ⟨n,hns,rfl,A0 (by rw[<-HN.out,YB];rfl)⟩⟩
 case round=>obtain⟨x,y,rfl,rfl,hc⟩:=hrel;rcases hc with⟨j,hj,rfl,hg⟩|⟨rfl,hg⟩;(·have HDC:=A0 (XF s j hj);have hb:=mW (s.data.toList.drop (j+1)) (fun c hc=>HD.out c (M6 hc));have hw:=Zn8 (s.data.toList.drop (j+1));have hll:=Z7 s (j+1);rw[<-hg.out]at hb hw;dsimp only at hb hw;obtain⟨b0,b1⟩:=hb;obtain⟨c1,c2⟩:=HD.out _ (Zn s j hj);have hx27:x<=2700:=B0;obtain⟨c,hcc⟩:∃c,s[j]=c:=⟨_,rfl⟩;rw[hcc]at c1 c2 HDC;have HNX:Hid (Cd.gsF (s.data.toList.drop j)=(x+y*Cd.dg c,4-y)):=A0 (by rw[HDC.out,Cd.gsF,<-hg.out]);have HDG:Hid (Cd.dg c=(c.toNat:Int)-48):=A0 rfl;have hj0:(0:Int)<=(j:Int):=B0;have hy3:1<=y∧y<=3:=B0;have hw':=hw;obtain⟨y1,y3⟩:=hy3;clear hg hll b1 HDC;have HPR:Hid (0<=y*((c.toNat:Int)-48)∧y*((c.toNat:Int)-48)<=27):=A0 (by rcases hw' with rfl|rfl<;>omega);clear hw hw';obtain⟨pr0,pr1⟩:=HPR.out;rcases SH j with hjz|hjp;(·subst hjz;have HN0:Hid (Cd.gsF s.data.toList=(x+y*Cd.dg c,4-y)):=A0 (by have:=HNX.out;rw[R5]at this;exact this);go_wp2;go_round;(case rel=>exact⟨_,_,rfl,rfl,.inr ⟨by go_num,A0 (by rw[HN0.out,HDG.out])⟩⟩);case measure=>simp[intOf]);·obtain⟨k,rfl⟩:∃k,j=k+1:=⟨j-1,by omega⟩;go_wp2;go_round;(case rel=>exact⟨_,_,rfl,rfl,.inl ⟨k,by omega,by go_num,A0 (by rw[HNX.out,HDG.out])⟩⟩);case measure=>exact Q8);·have HF:Hid (res=decide (x%10=0)):=A0 (by rw[<-HR.out,<-hg.out]);have hb:=mW s.data.toList HD.out;rw[<-hg.out]at hb;dsimp only at hb;obtain⟨b0,b1⟩:=hb;clear hg b1;go_wp2;go_ret;exact⟨Zm (by rw[HF.out];simp[Bool.beq_eq_decide_eq]),rfl⟩
theorem Znn {l:List UInt8} (hd:Cd.AllDig l) (h2:2<=l.length) (hl:l.length<=4096):Cd.verI 1 l=0↔(Cd.gsF l).1%10=0:=by have h1:Cd.verI 1 l=Cd.ver 1 l:=rfl;rw[h1,Cd.sums1 l hd h2 hl,Cd.ws_gs]
theorem ZlE (ai d:ByteArray) (w:World) (fm mo:Int) (hf:1<=fm) (hs:d.size<=9223372036854775807)
 (HT:Hid (∀w,Calls prog 206 #[.string ai] w (TabR (fm,mo) w)))
 (h:mo<(d.size:Int)∨d.size=0∨((d.size:Int)≠mo∧fm≠4∧fm≠5)):
 Calls prog 134 #[.agg #[.string ai,.string d]] w fun e w'=>e=.returned (.int .i64 7)∧Ext w w':=by
 have HXA:=A0 ((Ext.refl w).alloc (.cells #[.string ai,.string d] 86))
 have FJ:Hid (∀w',Ext (w.alloc (.cells #[.string ai,.string d] 86)) w'->w'.cell? ⟨w.heap.size,0,none⟩=some (.string ai)∧w'.cell? ⟨w.heap.size,1,none⟩=some (.string d)):=A0 (fun w' hx=>by refine⟨?_,?_⟩;all_goals rw[hx.cell L0];simp[go_sem])
 have g0:(fm==0)=false:=O2
 by_cases h1:mo<(d.size:Int)
 ·clear h;exact qO
 ·have h1':(d.size:Int)<=mo:=B0;by_cases h2:d.size=0;(·have i0:((d.size:Int)==0)=true:=(by rw[h2];rfl);clear h h1 h2;exact qO);·have i0:((d.size:Int)==0)=false:=O2;obtain⟨a1,a2,a3⟩:(d.size:Int)≠mo∧fm≠4∧fm≠5:=(h.resolve_left h1).resolve_left h2;have i2:((d.size:Int) !=mo)=true:=S0;have i4:(fm !=4)=true:=(by simpa using a2);have i5:(fm !=5)=true:=(by simpa using a3);clear h h1 h2 a1 a2 a3;exact qO
theorem ZoD (ai d:ByteArray) (w:World) (mo:Int) (res:Int) (hm1:1<=mo) (hm9:mo<=90) (hs:d.size<=9223372036854775807)
 (HT:Hid (∀w,Calls prog 206 #[.string ai] w (TabR (1,mo) w)))
 (n0:1<=d.size) (n1:(d.size:Int)<=mo) (HNE:(d.size:Int)=mo) (hlo:True)
 (HV6:Hid (d.data.toList.all (fun c=>Cd.isDig c.toNat)=false->res=6)) (HV3:Hid (d.data.toList.all (fun c=>Cd.isDig c.toNat)=true->res=0)):
 Calls prog 134 #[.agg #[.string ai,.string d]] w fun e w'=>e=.returned (.int .i64 res)∧Ext w w':=by
 have HXA:=A0 ((Ext.refl w).alloc (.cells #[.string ai,.string d] 86))
 have FJ:Hid (∀w',Ext (w.alloc (.cells #[.string ai,.string d] 86)) w'->w'.cell? ⟨w.heap.size,0,none⟩=some (.string ai)∧w'.cell? ⟨w.heap.size,1,none⟩=some (.string d)):=A0 (fun w' hx=>by refine⟨?_,?_⟩;all_goals rw[hx.cell L0];simp[go_sem])
 have i0:((d.size:Int)==0)=false:=O2
 have i1:¬mo<(d.size:Int):=by omega
 have i2:((d.size:Int) !=mo)=false:=S0
 have HNE2:=A0 HNE
 clear HNE i1
 go_enter func134,ntmps134
 go_wp2_with fail
 refine(HT.out _).mono ?_
 rintro e w1 ⟨rfl,hx1⟩
 dsimp only
 obtain⟨d0,d1⟩:=FJ.out w1 hx1
 have hxw:Ext w w1:=HXA.out.trans hx1
 go_wp2
 go_loop [6] (fun i=>∃j:Nat,j<=d.size∧i=.int .i64 (j:Int)∧Hid ((d.data.toList.take j).all (fun c=>Cd.isDig c.toNat)=true)) (fun i=>d.size-(intOf i).toNat)
 case atStart=>exact X4
 case round=>exact QP
theorem ZoE (ai d:ByteArray) (w:World) (mo:Int) (res:Int) (hm1:1<=mo) (hm9:mo<=90) (hs:d.size<=9223372036854775807)
 (HT:Hid (∀w,Calls prog 206 #[.string ai] w (TabR (2,mo) w)))
 (n0:1<=d.size) (n1:(d.size:Int)<=mo) (HNE:(d.size:Int)=mo) (h13:Hid (1<=d.size∧d.size<=100∧2<=d.size))
 (HV6:Hid (d.data.toList.all (fun c=>Cd.isDig c.toNat)=false->res=6)) (HV3:Hid (d.data.toList.all (fun c=>Cd.isDig c.toNat)=true->res=if Cd.verI 1 d.data.toList≠0 then 8 else 0)):
 Calls prog 134 #[.agg #[.string ai,.string d]] w fun e w'=>e=.returned (.int .i64 res)∧Ext w w':=by
 have HXA:=A0 ((Ext.refl w).alloc (.cells #[.string ai,.string d] 86))
 have FJ:Hid (∀w',Ext (w.alloc (.cells #[.string ai,.string d] 86)) w'->w'.cell? ⟨w.heap.size,0,none⟩=some (.string ai)∧w'.cell? ⟨w.heap.size,1,none⟩=some (.string d)):=A0 (fun w' hx=>by refine⟨?_,?_⟩;all_goals rw[hx.cell L0];simp[go_sem])
 have i0:((d.size:Int)==0)=false:=O2
 have i1:¬mo<(d.size:Int):=by omega
 have i2:((d.size:Int) !=mo)=false:=S0
 have HNE2:=A0 HNE
 clear HNE i1
 go_enter func134,ntmps134
 go_wp2_with fail
 refine(HT.out _).mono ?_
 rintro e w1 ⟨rfl,hx1⟩
 dsimp only
 obtain⟨d0,d1⟩:=FJ.out w1 hx1
 have hxw:Ext w w1:=HXA.out.trans hx1
 go_wp2
 go_loop [6] (fun i=>∃j:Nat,j<=d.size∧i=.int .i64 (j:Int)∧Hid ((d.data.toList.take j).all (fun c=>Cd.isDig c.toNat)=true)) (fun i=>d.size-(intOf i).toNat)
 case atStart=>exact X4
 case round=>obtain⟨j,hj,rfl,hal⟩:=hrel;by_cases hlt:j<d.size;(·exact QC);·obtain rfl:j=d.size:=B0;rw[Z3]at hal;clear hj hlt;have HV4:=A0 (HV3.out hal.out);have HCK:=A0 (fun w=>ZgD d h13.out.1 h13.out.2.1 (JE hal.out) w);have HSUM:=A0 (Znn (JE hal.out) (by rw[Zd];exact h13.out.2.2) (by rw[Zd];have:=h13.out.2.1;omega));cases hck:decide ((Cd.gsF d.data.toList).1%10=0);(·have HR9:Hid (res=8):=A0 (by rw[HV4.out,D0 (fun h=>by have:=HSUM.out.1 h;rw[V0 this]at hck;exact Bool.noConfusion hck)]);exact mX);·have HR9:Hid (res=0):=A0 (by rw[HV4.out,C0 (fun h=>h (HSUM.out.2 (G6 hck)))]);exact mX
theorem ZoF (ai d:ByteArray) (w:World) (mo:Int) (res:Int) (hm1:1<=mo) (hm9:mo<=90) (hs:d.size<=9223372036854775807)
 (HT:Hid (∀w,Calls prog 206 #[.string ai] w (TabR (3,mo) w)))
 (n0:1<=d.size) (n1:(d.size:Int)<=mo) (HNE:(d.size:Int)=mo) (h6:Hid (d.size=6))
 (HV6:Hid (d.data.toList.all (fun c=>Cd.isDig c.toNat)=false->res=6)) (HV3:Hid (d.data.toList.all (fun c=>Cd.isDig c.toNat)=true->res=if Gs.dateB d.data.toList=false then 9 else 0)):
 Calls prog 134 #[.agg #[.string ai,.string d]] w fun e w'=>e=.returned (.int .i64 res)∧Ext w w':=by
 have HXA:=A0 ((Ext.refl w).alloc (.cells #[.string ai,.string d] 86))
 have FJ:Hid (∀w',Ext (w.alloc (.cells #[.string ai,.string d] 86)) w'->w'.cell? ⟨w.heap.size,0,none⟩=some (.string ai)∧w'.cell? ⟨w.heap.size,1,none⟩=some (.string d)):=A0 (fun w' hx=>by refine⟨?_,?_⟩;all_goals rw[hx.cell L0];simp[go_sem])
 have i0:((d.size:Int)==0)=false:=O2
 have i1:¬mo<(d.size:Int):=by omega
 have i2:((d.size:Int) !=mo)=false:=S0
 have HNE2:=A0 HNE
 clear HNE i1
 go_enter func134,ntmps134
 go_wp2_with fail
 refine(HT.out _).mono ?_
 rintro e w1 ⟨rfl,hx1⟩
 dsimp only
 obtain⟨d0,d1⟩:=FJ.out w1 hx1
 have hxw:Ext w w1:=HXA.out.trans hx1
 go_wp2
 go_loop [6] (fun i=>∃j:Nat,j<=d.size∧i=.int .i64 (j:Int)∧Hid ((d.data.toList.take j).all (fun c=>Cd.isDig c.toNat)=true)) (fun i=>d.size-(intOf i).toNat)
 case atStart=>exact X4
 case round=>obtain⟨j,hj,rfl,hal⟩:=hrel;by_cases hlt:j<d.size;(·exact QC);·obtain rfl:j=d.size:=B0;rw[Z3]at hal;clear hj hlt;have HV4:=A0 (HV3.out hal.out);cases hdt:Gs.dateB d.data.toList;(·have HR9:Hid (res=9):=A0 (by rw[HV4.out,D0 hdt]);exact mY);·have HR9:Hid (res=0):=A0 (by rw[HV4.out,C0 (by rw[hdt];simp)]);exact mY
theorem ZoG (ai d:ByteArray) (w:World) (mo:Int) (res:Int) (hm1:1<=mo) (hm9:mo<=90) (hs:d.size<=9223372036854775807)
 (HT:Hid (∀w,Calls prog 206 #[.string ai] w (TabR (4,mo) w)))
 (n0:1<=d.size) (n1:(d.size:Int)<=mo) (HNE:True) (hlo:True)
 (HV6:Hid (d.data.toList.all (fun c=>Cd.isDig c.toNat)=false->res=6)) (HV3:Hid (d.data.toList.all (fun c=>Cd.isDig c.toNat)=true->res=0)):
 Calls prog 134 #[.agg #[.string ai,.string d]] w fun e w'=>e=.returned (.int .i64 res)∧Ext w w':=by
 have HXA:=A0 ((Ext.refl w).alloc (.cells #[.string ai,.string d] 86))
 have FJ:Hid (∀w',Ext (w.alloc (.cells #[.string ai,.string d] 86)) w'->w'.cell? ⟨w.heap.size,0,none⟩=some (.string ai)∧w'.cell? ⟨w.heap.size,1,none⟩=some (.string d)):=A0 (fun w' hx=>by refine⟨?_,?_⟩;all_goals rw[hx.cell L0];simp[go_sem])
 have i0:((d.size:Int)==0)=false:=O2
 have i1:¬mo<(d.size:Int):=by omega
 clear HNE i1
 by_cases hq:(d.size:Int)=mo
 ·have i2:((d.size:Int) !=mo)=false:=S0;exact Q6
 ·have i2:((d.size:Int) !=mo)=true:=S0;exact Q6
theorem ZoH (ai d:ByteArray) (w:World) (mo:Int) (res:Int) (hm1:1<=mo) (hm9:mo<=90) (hs:d.size<=9223372036854775807)
 (HT:Hid (∀w,Calls prog 206 #[.string ai] w (TabR (5,mo) w)))
 (n0:1<=d.size) (n1:(d.size:Int)<=mo) (HNE:True) (hlo:True)
 (HV6:Hid (d.data.toList.all (fun c=>Cd.isDig c.toNat || Gs.charB c)=false->res=6)) (HV3:Hid (d.data.toList.all (fun c=>Cd.isDig c.toNat || Gs.charB c)=true->res=0)):
 Calls prog 134 #[.agg #[.string ai,.string d]] w fun e w'=>e=.returned (.int .i64 res)∧Ext w w':=by
 have HXA:=A0 ((Ext.refl w).alloc (.cells #[.string ai,.string d] 86))
 have FJ:Hid (∀w',Ext (w.alloc (.cells #[.string ai,.string d] 86)) w'->w'.cell? ⟨w.heap.size,0,none⟩=some (.string ai)∧w'.cell? ⟨w.heap.size,1,none⟩=some (.string d)):=A0 (fun w' hx=>by refine⟨?_,?_⟩;all_goals rw[hx.cell L0];simp[go_sem])
 have i0:((d.size:Int)==0)=false:=O2
 have i1:¬mo<(d.size:Int):=by omega
 clear HNE i1
 by_cases hq:(d.size:Int)=mo
 ·have i2:((d.size:Int) !=mo)=false:=S0;exact Q3
 ·have i2:((d.size:Int) !=mo)=true:=S0;exact Q3
theorem mZ:∀p∈Gs.dir,p.2.1=1->13<=p.2.2.1:=E2
theorem ZkQ {l:List UInt8} {r:Gs.Rule} (h:Gs.find l=some r) (h0:r.1=1):13<=r.2.1:=by
 rcases BW h with⟨h1,_⟩|⟨k,c,_,h1,_⟩;·exact mZ _ h1 h0
 ·exact mZ _ h1 h0
theorem qP {k:Int} (h:k≠3):Gs.okc k=fun c=>Cd.isDig c.toNat:=by funext c;unfold Gs.okc;rw[show(k==3)=false by simpa using h];simp
theorem ZoA:Gs.okc 3=fun c=>Cd.isDig c.toNat || Gs.charB c:=by funext c;unfold Gs.okc;simp
theorem JI (ai d:ByteArray) (ha:ai.size<=maxLen) (hs:d.size<=maxLen) (w:World):
 Calls prog 134 #[.agg #[.string ai,.string d]] w fun e w'=>e=.returned (.int .i64 (Gs.ver ai.data.toList d.data.toList))∧Ext w w':=by
 have HT:=A0 (fun w=>qM ai ha w)
 have hs':d.size<=9223372036854775807:=hs
 cases hg:Gs.find ai.data.toList with
 |none=>rw[hg]at HT;have HV:Hid (Gs.ver ai.data.toList d.data.toList=29):=A0 (by unfold Gs.ver;rw[hg]);generalize Gs.ver ai.data.toList d.data.toList=res at*;have HXA:=A0 ((Ext.refl w).alloc (.cells #[.string ai,.string d] 86));have FJ:Hid (∀w',Ext (w.alloc (.cells #[.string ai,.string d] 86)) w'->w'.cell? ⟨w.heap.size,0,none⟩=some (.string ai)∧w'.cell? ⟨w.heap.size,1,none⟩=some (.string d)):=A0 (fun w' hx=>by refine⟨?_,?_⟩;all_goals rw[hx.cell L0];simp[go_sem]);clear hg hs ha;dsimp only[Gs.tabO]at HT;go_enter func134,ntmps134;go_wp2_with fail;refine(HT.out _).mono ?_;rintro e w1 ⟨rfl,hx1⟩;dsimp only;obtain⟨d0,d1⟩:=FJ.out w1 hx1;have hxw:Ext w w1:=HXA.out.trans hx1;go_wp2;go_ret;exact⟨Z1 HV.out.symm,hxw⟩
 |some r=>rw[hg]at HT;have HV:Gs.ver ai.data.toList d.data.toList=Gs.verR r d.data.toList:=(by unfold Gs.ver;rw[hg]);rw[HV];have hok:=XP hg;obtain⟨f1,f5,ff⟩:=qN hok;obtain⟨k0,k3,l1,lh,h9,h2,h1,h3⟩:=hok;have hvar:=fun h=>ZkS hg h;have hchk:=fun h=>ZkQ hg h;obtain⟨k,lo,hi,sf⟩:=r;dsimp only[Gs.tabO]at HT k0 k3 l1 lh h9 h2 h1 h3 hvar hchk;have hfr:=Eq.refl (Gs.frm (k,lo,hi,sf));unfold Gs.verR;dsimp only;rw[Zd];by_cases hlen:(d.size:Int)<lo∨hi<(d.size:Int);(·rw[D0 hlen];refine ZlE ai d w _ hi f1 hs' HT ?_;by_cases hfx:Gs.isFix (k,lo,hi,sf)=true;(·have hlh:lo=hi:=(by simpa[Gs.isFix]using hfx);have:=ff.1 hfx;omega);·have hlh:¬lo=hi:=(by simpa[Gs.isFix]using hfx);have hlo:lo=1:=(by have:k=0∨k=1∨k=2∨k=3:=B0;rcases this with e|e|e|e;(·exact(hvar e).resolve_left hlh);(·exact absurd (h1 e) hlh);(·have:=h2 e;omega);·exact(h3 e).1);omega);·rw[C0 hlen];have n0:1<=d.size:=B0;have n1:(d.size:Int)<=hi:=B0;have hk:k=0∨k=1∨k=2∨k=3:=B0;rcases hk with rfl|rfl|rfl|rfl;(·rw[qP I0];by_cases hlh:lo=hi;(·have e:Gs.frm (0,lo,hi,sf)=1:=(by unfold Gs.frm;simp[hlh]);rw[e]at HT;refine ZoD ai d w hi _ B0 h9 hs' HT n0 n1 B0 trivial (A0 (fun h=>by rw[D0 h])) (A0 (fun h=>by rw[C0 PX,C0 L0,C0 L0])));·have e:Gs.frm (0,lo,hi,sf)=4:=(by unfold Gs.frm;simp[hlh]);rw[e]at HT;refine ZoG ai d w hi _ B0 h9 hs' HT n0 n1 trivial trivial (A0 (fun h=>by rw[D0 h])) (A0 (fun h=>by rw[C0 PX,C0 L0,C0 L0])));(·have e:Gs.frm (1,lo,hi,sf)=2:=(by unfold Gs.frm;simp);have hlh:=h1 rfl;have h13:=hchk rfl;rw[qP I0];rw[e]at HT;refine ZoE ai d w hi _ B0 h9 hs' HT n0 n1 B0 (A0 ⟨n0,by omega,by omega⟩) (A0 (fun h=>by rw[D0 h])) (A0 (fun h=>by rw[C0 PX,C0 L0];simp)));(·have e:Gs.frm (2,lo,hi,sf)=3:=(by unfold Gs.frm;simp);have h6:=h2 rfl;rw[qP I0];rw[e]at HT;refine ZoF ai d w hi _ B0 h9 hs' HT n0 n1 B0 (A0 B0) (A0 (fun h=>by rw[D0 h])) (A0 (fun h=>by rw[C0 PX];simp)));·have e:Gs.frm (3,lo,hi,sf)=5:=(by unfold Gs.frm;simp);rw[ZoA];rw[e]at HT;refine ZoH ai d w hi _ B0 h9 hs' HT n0 n1 trivial trivial (A0 (fun h=>by rw[D0 h])) (A0 (fun h=>by rw[C0 PX,C0 L0,C0 L0]))
theorem Zl0 (v:Value) (xs:List Gs.El) (w:World) (hl:ESl w v xs) (hn:xs.length<=1000000000000) (hs:∀x∈xs,x.1.length<=maxLen∧x.2.length<=maxLen):
 Calls prog 135 #[v] w fun e w'=>e=.returned (.int .i64 (Gs.verAll xs))∧Ext w w':=by
 obtain⟨a,c,rfl⟩:=hl.form
 have HV:=A0 (fun(w':World) (ai d:ByteArray) (h1:ai.size<=maxLen) (h2:d.size<=maxLen)=>JI ai d h1 h2 w')
 have HL:=A0 hl
 have HS:=A0 hs
 have HR:=A0 (Gs.verAll.eq_1 xs)
 generalize Gs.verAll xs=res at*
 clear hl hs
 by_cases h0:xs=[]
 ·subst h0;rw[D0 rfl]at HR;clear HV HL HS;go_enter func135,ntmps135;go_wp2;go_ret;exact⟨Z1 HR.out.symm,Ext.refl _⟩
 ·rw[C0 h0]at HR;obtain⟨N,hN⟩:∃N,xs.length=N:=⟨_,rfl⟩;have hN0:0<N:=(by rw[<-hN];exact MM);have hN1:((N:Int)==0)=false:=O2;have HN:=A0 hN;rw[hN]at hn HL⊢;clear h0 hN;go_enter func135,ntmps135;go_wp2;go_loopw [3] (fun t wr=>∃k:Nat,k<=N∧t=.int .i64 (k:Int)∧Hid (res=Gs.verL (xs.drop k))∧Ext w wr) (fun t _=>N-(intOf t).toNat);(case atStart=>exact⟨0,O0 _,rfl,HR,Ext.refl w⟩);case round=>obtain⟨k,hk,rfl,hv,hx⟩:=hrel;by_cases hlt:k<N;(·obtain⟨x,hxk⟩:∃x,xs[k]? =some x:=⟨_,M0 WR⟩;obtain⟨bb,off,ha,hb,q0,q1⟩:=HL.out.at_ hxk;subst ha;have d0:=(hx.cell (p:=⟨bb,off+k*2,none⟩) hb).trans q0;have d1:=(hx.cell (p:=⟨bb,off+k*2+1,none⟩) hb).trans q1;have hdr:xs.drop k=x::xs.drop (k+1):=eW;have HV1:=A0 (hv.out.trans (by rw[hdr,Gs.verL]));obtain⟨s1,s2⟩:=HS.out x (J1 hxk);obtain⟨xa,xd⟩:=x;unfold encS at d0 d1;dsimp only at d0 d1 s1 s2 HV1;have HB:Hid ((⟨xa.toArray⟩:ByteArray).data.toList=xa∧(⟨xd.toArray⟩:ByteArray).data.toList=xd∧(⟨xa.toArray⟩:ByteArray).size<=maxLen∧(⟨xd.toArray⟩:ByteArray).size<=maxLen):=A0 (by simp[ByteArray.size];exact⟨s1,s2⟩);generalize(⟨xa.toArray⟩:ByteArray)=A at*;generalize(⟨xd.toArray⟩:ByteArray)=D at*;clear hxk q0 q1 hdr s1 s2 hv;go_wp2_with fail;obtain⟨b1,b2,b3,b4⟩:=HB.out;have H1:=A0 (HV.out wr A D b3 b4);rw[b1,b2]at H1;clear b1 b2 b3 b4;by_cases hz:Gs.ver xa xd=0;(·rw[D0 hz]at HV1;rw[hz]at H1;clear hz;refine H1.out.mono ?_;rintro e w1 ⟨rfl,hx1⟩;clear d0 d1;go_wp2;go_roundw;(case rel=>exact⟨k+1,by omega,by go_num,HV1,hx.trans hx1⟩);case measure=>exact Q8);·rw[C0 hz]at HV1;obtain⟨z,hzz⟩:∃z,Gs.ver xa xd=z:=⟨_,rfl⟩;rw[hzz]at H1 HV1 hz;have hz1:(z==0)=false:=PO;clear hzz;refine H1.out.mono ?_;rintro e w1 ⟨rfl,hx1⟩;clear d0 d1;go_wp2;go_ret;exact⟨Z1 HV1.out.symm,hx.trans hx1⟩);·exact eX
theorem Zgr (xs:List Gs.El) (k:Nat):((xs.take k).flatMap Gs.fmtE).length<=(xs.flatMap Gs.fmtE).length:=by
 have:xs.flatMap Gs.fmtE=(xs.take k).flatMap Gs.fmtE++(xs.drop k).flatMap Gs.fmtE:=by rw[<-VD,J7]
 rw[this,T0];omega
theorem Zh1 (v:Value) (xs:List Gs.El) (w:World) (hl:ESl w v xs) (hn:xs.length<=1000000000) (hs:∀x∈xs,x.1.length<=maxLen∧x.2.length<=maxLen):
 Calls prog 147 #[v] w (StrR (Gs.format xs) w):=by
 have HVA:=A0 (Zl0 v xs w hl B0 hs)
 have HL:=A0 hl
 obtain⟨a,c,rfl⟩:=hl.form
 have HR:=A0 (Gs.format.eq_1 xs)
 have HVM:Hid (Gs.verAll xs=0->∀x∈xs,Gs.ver x.1 x.2=0):=A0 (fun h=>AE (AF h))
 generalize Gs.format xs=res at*
 obtain⟨N,hN⟩:∃N,xs.length=N:=⟨_,rfl⟩
 have HN:=A0 hN
 rw[hN]at hn HL HVA⊢
 clear hl hs hN
 by_cases hz:Gs.verAll xs=0
 ·have HVM:=A0 (HVM.out hz);rw[hz]at HVA;rw[hz,C0 L0]at HR;clear hz;go_enter func147,ntmps147;go_wp2_with fail;refine HVA.out.mono ?_;rintro e V ⟨rfl,hxw⟩;clear HVA;go_wp2;go_loopw [6,5] (fun t u wr=>∃(k:Nat) (S:ByteArray),k<=N∧t=.int .i64 (k:Int)∧u=.string S∧S.size<=4096∧Hid (S.data.toList=(xs.take k).flatMap Gs.fmtE)∧Ext w wr) (fun t _ _=>N-(intOf t).toNat);(case atStart=>exact⟨0,⟨#[]⟩,O0 _,rfl,rfl,by decide,A0 rfl,hxw⟩);case round=>obtain⟨k,S,hk,rfl,rfl,hS4,hst,hx⟩:=hrel;by_cases hlt:k<N;(·obtain⟨x,hxk⟩:∃x,xs[k]? =some x:=⟨_,M0 WR⟩;obtain⟨bb,off,ha,hb',q0,q1⟩:=HL.out.at_ hxk;subst ha;have d0:=(hx.cell (p:=⟨bb,off+k*2,none⟩) hb').trans q0;have d1:=(hx.cell (p:=⟨bb,off+k*2+1,none⟩) hb').trans q1;have HTS:Hid ((xs.take (k+1)).flatMap Gs.fmtE=(xs.take k).flatMap Gs.fmtE++Gs.fmtE x):=A0 eZ;have hvs:=KI (HVM.out x (J1 hxk));obtain⟨xa,xd⟩:=x;unfold encS at d0 d1;dsimp only at d0 d1 hvs;have HB:Hid ((⟨xa.toArray⟩:ByteArray).data.toList=xa∧(⟨xd.toArray⟩:ByteArray).data.toList=xd):=A0 ⟨rfl,rfl⟩;generalize(⟨xa.toArray⟩:ByteArray)=A at*;generalize(⟨xd.toArray⟩:ByteArray)=D at*;have hAs:A.size<=4:=(by rw[<-Zd,HB.out.1];exact hvs.1);have hDs:D.size<=90:=(by rw[<-Zd,HB.out.2];exact hvs.2);have HNS:Hid ((S++⟨#[40]⟩++A++⟨#[41]⟩++D).data.toList=(xs.take (k+1)).flatMap Gs.fmtE):=A0 (by rw[HTS.out,<-hst.out,<-HB.out.1,<-HB.out.2];simp[Gs.fmtE,Y3]);have HFT:=A0 (Zgr xs (k+1));clear hxk q0 q1 hvs hst HTS;go_wp2;go_quiet (fail);obtain⟨R,hR⟩:∃R:ByteArray,R=S++⟨#[40]⟩++A++⟨#[41]⟩++D:=⟨_,rfl⟩;rw[<-hR]at HNS⊢;have hRs:R.size<=5000:=(by rw[hR];simp only[WF];have h1:(⟨#[40]⟩:ByteArray).size=1:=rfl;have h2:(⟨#[41]⟩:ByteArray).size=1:=rfl;omega);clear hR;by_cases hlg:4096<R.size;(·have HR4:Hid (res=([],4)):=A0 (by rw[HR.out,D0];have h1:=HFT.out;rw[<-HNS.out,Zd]at h1;omega);go_wp2;go_ret2;rw[HR4.out];exact⟨rfl,hx.drewN _⟩);·have hlg':R.size<=4096:=B0;clear hlg;go_wp2;go_roundw;(case rel=>exact⟨k+1,R,by omega,by go_num,rfl,hlg',HNS,hx.drewN _⟩);case measure=>exact Q8);·obtain rfl:k=N:=B0;have HST:Hid (S.data.toList=xs.flatMap Gs.fmtE):=A0 (by rw[hst.out,X1 PP]);rw[<-HST.out,Zd,C0 B0]at HR;clear hk hlt hst;go_wp2;go_ret2;rw[HR.out];exact⟨by rw[ZT];rfl,hx⟩
 ·rw[D0 hz]at HR;obtain⟨z,hzz⟩:∃z,Gs.verAll xs=z:=⟨_,rfl⟩;rw[hzz]at HVA HR hz;have hz1:(z==0)=false:=PO;clear hzz HVM;go_enter func147,ntmps147;go_wp2_with fail;refine HVA.out.mono ?_;rintro e V ⟨rfl,hxw⟩;go_wp2;go_ret2;exact⟨by rw[HR.out];rfl,hxw⟩
theorem nA (v:Value) (cs:List Int) (w:World) (hv:Sl w v (cs.map encI)) (hn:cs.length<=4096) (hok:∀b∈cs,0<=b∧b<=127):
 Calls prog 224 #[v] w fun e w'=>e=.returned (encS (Gs.text cs))∧Ext w w':=by
 obtain⟨av,cv,rfl⟩:=hv.form
 rw[J0]at hv⊢
 have HV:=A0 hv
 have HOK:=A0 hok
 obtain⟨N,hN⟩:∃N,cs.length=N:=⟨_,rfl⟩
 have HN:=A0 hN
 rw[hN]at hn HV⊢
 clear hv hok hN
 go_enter func224,ntmps224
 go_wp2
 go_loopw [4,3] (fun t v wr=>∃k:Nat,k<=N∧t=.int .i64 (k:Int)∧Own 5 wr w.heap.size v ((Gs.text (cs.take k)).map encB)∧Ext w wr) (fun t _ _=>N-(intOf t).toNat)
 case atStart=>exact⟨0,O0 _,rfl,Own.nil _ _ _,Ext.refl w⟩
 case round=>obtain⟨k,hk,rfl,hown,hx⟩:=hrel;obtain⟨ao,co,rfl⟩:=hown.sl.form;have hlk:(Gs.text (cs.take k)).length=k:=(by rw[X9,M1,HN.out];omega);rw[J0]at hown⊢;by_cases hlt:k<N;(·obtain⟨c,hck⟩:∃c,cs[k]? =some c:=⟨_,M0 WR⟩;obtain⟨bb,off,ha,hb,hcell⟩:=HV.out.at_ (k:=k) TK;subst ha;have e1:(cs.map encI)[k]' TK=.int .i64 c:=AM;rw[e1]at hcell;have hcc:=(hx.cell (p:=⟨bb,off+k,none⟩) hb).trans hcell;obtain⟨c0,c1⟩:=HOK.out c (J1 hck);have HTK:Hid (Gs.text (cs.take (k+1))=Gs.text (cs.take k)++[Gs.byte c]):=A0 (by rw[KJ hck,Zma];rfl);have HBN:=A0 (fC c0 c1);generalize Gs.text (cs.take k)=got at*;have hlk':got.length<=4096:=B0;have HLK:=A0 hlk;clear hck e1 hcell hlk;go_wp2_with (at_builtin;go_loud (refine OI rfl _ _ rfl w.heap.size _ got rfl (hown.ext ((Ext.refl wr).alloc _)) _ (Gs.byte c) rfl ?_ B0 ?_ ?_));(·simp[go_sem,encB,HBN.out]);(·have:=hx.size;exact S0);intro v5 w5 hown5 hg5;have hx5:Ext w w5:=(hx.alloc _).ofGrown hg5 hown.low;clear hown hg5 hcc hx;go_wp2;go_roundw;(case rel=>exact⟨k+1,by omega,by go_num,by rw[HTK.out];first|exact hown5|(rw[E3];exact hown5),hx5⟩);case measure=>exact Q8);·obtain rfl:k=N:=B0;rw[X1 PP]at hown hlk⊢;have hcv:=Zr hown.sl;have HLK:=A0 hlk;clear hk hlt hlk;go_wp2;go_ret;exact⟨rfl,hx⟩
def preF (o:Option (List UInt8×Gs.Rule)):List UInt8:=match o with
 |none=>[]
 |some (a,_)=>a
theorem nB (s:ByteArray) (hs:s.size<=1000000) (w:World):
 Calls prog 225 #[.string s] w fun e w'=>e=.returned (encS (preF (Gs.pre s.data.toList)))∧Ext w w':=by
 have HT:=A0 (fun(n:Nat) (w':World)=>qM (s.extract 0 n) eT w')
 have HP:=A0 (@eR s.data.toList)
 have HN:=A0 (@eS s.data.toList)
 have HE:=A0 (fun n=>Gs.preN.eq_1 s.data.toList n)
 have HC:=A0 (fun n=>Zy s n)
 have HL:=A0 (Zd s)
 generalize Gs.pre s.data.toList=res at*
 generalize hl:s.data.toList=l at*
 clear hl
 go_enter func225,ntmps225
 go_wp2
 go_loopw [3] (fun t wr=>∃n:Nat,2<=n∧n<=5∧t=.int .i64 (n:Int)∧Hid (∀j,2<=j->j<n->Gs.preN l j=none)∧Ext w wr) (fun t _=>5-(intOf t).toNat)
 case atStart=>exact⟨2,by omega,by omega,rfl,A0 (fun j h1 h2=>by omega),Ext.refl w⟩
 case round=>
  obtain⟨n,h2,h5,rfl,hno,hx⟩:=hrel;by_cases h4:n<=4
  ·by_cases hle:n<=s.size
   ·have H1:=A0 (HT.out n wr)
    have HE1:=A0 (HE.out n)
    rw[D0 (by rw[HL.out];exact hle)]at HE1
    rw[HC.out]at H1
    obtain⟨T,hT⟩:∃T,l.take n=T:=⟨_,rfl⟩
    rw[hT]at H1 HE1
    cases hg:Gs.find T with
    |none=>rw[hg]at H1 HE1;have HNX:Hid (∀j,2<=j->j<n+1->Gs.preN l j=none):=A0 (fun j h1 h3=>by rcases P4 j n with hh|hh;(·exact hno.out j h1 hh);·obtain rfl:j=n:=B0;exact HE1.out);dsimp only[Gs.tabO]at H1;clear hg hT HE1;go_wp2_with fail;refine H1.out.mono ?_;rintro e w1 ⟨rfl,hx1⟩;dsimp only;go_wp2;go_roundw;(case rel=>exact⟨n+1,by omega,by omega,by go_num,HNX,hx.trans hx1⟩);case measure=>exact Q8
    |some r=>rw[hg]at H1 HE1;have HRES:Hid (res=some (T,r)):=A0 (HP.out n hno.out h2 h4 (by rw[HE1.out];rfl));have HTT:Hid (encS T=.string (s.extract 0 n)):=A0 (by rw[<-hT,<-HC.out,ZT]);obtain⟨f1,_,_⟩:=qN (XP hg);dsimp only[Gs.tabO]at H1;generalize Gs.frm r=fm at*;have hfm:(fm==0)=false:=O2;have hfm2:(fm !=0)=true:=S0;clear hg HE1 HP HN hT;go_wp2_with fail;refine H1.out.mono ?_;rintro e w1 ⟨rfl,hx1⟩;dsimp only;go_wp2;go_ret;exact⟨by rw[HRES.out];simp only[preF,HTT.out];rfl,hx.trans hx1⟩
   ·have HRES:Hid (res=none):=A0 (HN.out n hno.out h2 (.inr (by rw[HL.out];omega)));have hle':(s.size:Int)<(n:Int):=B0;exact nC
  ·have HRES:Hid (res=none):=A0 (HN.out n hno.out h2 (.inl B0));exact nC
end
end Go.Proofs.YtbngggoccndefaaGreatDoor
