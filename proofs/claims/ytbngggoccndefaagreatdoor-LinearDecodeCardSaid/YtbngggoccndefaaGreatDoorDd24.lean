/-
  Laid together.
-/
import Derived.Test.YtbngggoccndefaaGreatDoorDd20
set_option maxHeartbeats 16000000
set_option maxRecDepth 100000
set_option linter.unusedVariables false
set_option linter.unusedSimpArgs false
set_option linter.ambiguousOpen false
namespace Go.Proofs.YtbngggoccndefaaGreatDoor
open Go.Proofs.Tryz
section
namespace Ln
def exT:S:=[53,57,48,49,50,51,52,49,50,51,52,53,55]
def exRow:List Bool:=(Ea.enc 1 exT []).1
def tri (l:List Bool):List Bool:=l.reverse.flatMap fun b=>[b,b,b]
theorem ex_dec:decode exRow=((1,exT,[]),0):=Qct
theorem ex_read3:read (tri exRow)=((1,exT,[]),0):=Qct
theorem ex_two:read [false,false]=(zero,5):=Qct
theorem ex_vote:vote [exRow,[],tri exRow]=((1,exT,[]),2,0):=Qct
theorem ex_len:exRow.length=113:=Qct
end Ln
end
end Go.Proofs.YtbngggoccndefaaGreatDoor
namespace Go.Proofs.YtbngggoccndefaaGreatDoor
open Go.Proofs.Tryz
section
open Go.RowKit
def Gs.tabL:List (List UInt8×(Int×Int)):=[([48,48],(2,18)),([48,49],(2,14)),([48,50],(2,14)),([49,49],(3,6)),([49,50],(3,6)),([49,51],(3,6)),([49,53],(3,6)),([49,54],(3,6)),([49,55],(3,6)),([50,48],(1,2)),([51,48],(4,8)),([51,55],(4,8)),([49,48],(5,20)),([50,49],(5,20)),([50,50],(5,20)),([50,53,52],(5,20)),([56,48,50,48],(5,25)),([50,52,48],(5,30)),([50,52,49],(5,30)),([50,53,48],(5,30)),([50,53,49],(5,30)),([52,48,48],(5,30)),([52,48,49],(5,30)),([52,48,51],(5,30)),([57,48],(5,30))]
def Gs.leB (a b:List UInt8):Bool:=Op.bytesLess a b || a==b
def Gs.rngB (l:List UInt8):Bool:=(!Op.bytesLess l [51,49,48]&&Gs.leB l [51,49,54]) || (!Op.bytesLess l [51,50,48]&&Gs.leB l [51,51,55])
def Gs.tab2 (l:List UInt8):Int×Int:=
 if l.all (fun c=>Cd.isDig c.toNat)=false then(0,0)
 else if l.length=2∧Gs.leB l [57,48]=false then(5,90)
 else if l.length=3∧Op.bytesLess l [52,49,48]=false∧Gs.leB l [52,49,55]=true then(2,13)
 else if l.length=4∧(l.take 3=[51,57,48]∨l.take 3=[51,57,50])then(4,15)
 else if l.length=4∧(l.getD 3 0).toNat<=53∧Gs.rngB (l.take 3)=true then(1,6)
 else(0,0)
def Gs.tab (l:List UInt8):Int×Int:=match Gs.tabL.find? fun p=>p.1==l with
 |some p=>p.2
 |none=>Gs.tab2 l
def Gs.frm (r:Gs.Rule):Int:=if r.1=1 then 2 else if r.1=2 then 3 else if r.1=3 then 5 else if r.2.1=r.2.2.1 then 1 else 4
def Gs.tabO:Option Gs.Rule->Int×Int
 |none=>(0,0)
 |some r=>(Gs.frm r,r.2.2.1)
def Gs.dirL:List (List UInt8×Gs.Rule):=[([48,48],(1,18,18,0)),([50,48],(0,2,2,0)),([56,48,50,48],(3,1,25,0)),([48,49],(1,14,14,0)),([48,50],(1,14,14,0)),([49,49],(2,6,6,0)),([49,50],(2,6,6,0)),([49,51],(2,6,6,0)),([49,53],(2,6,6,0)),([49,54],(2,6,6,0)),([49,55],(2,6,6,0)),([51,49,48],(0,6,6,53)),([51,49,49],(0,6,6,53)),([51,49,50],(0,6,6,53)),([51,49,51],(0,6,6,53)),([51,49,52],(0,6,6,53)),([51,49,53],(0,6,6,53)),([51,49,54],(0,6,6,53)),([51,50,48],(0,6,6,53)),([51,50,49],(0,6,6,53)),([51,50,50],(0,6,6,53)),([51,50,51],(0,6,6,53)),([51,50,52],(0,6,6,53)),([51,50,53],(0,6,6,53)),([51,50,54],(0,6,6,53)),([51,50,55],(0,6,6,53)),([51,50,56],(0,6,6,53)),([51,50,57],(0,6,6,53)),([51,51,48],(0,6,6,53)),([51,51,49],(0,6,6,53)),([51,51,50],(0,6,6,53)),([51,51,51],(0,6,6,53)),([51,51,52],(0,6,6,53)),([51,51,53],(0,6,6,53)),([51,51,54],(0,6,6,53)),([51,51,55],(0,6,6,53)),([52,49,48],(1,13,13,0)),([52,49,49],(1,13,13,0)),([52,49,50],(1,13,13,0)),([52,49,51],(1,13,13,0)),([52,49,52],(1,13,13,0)),([52,49,53],(1,13,13,0)),([52,49,54],(1,13,13,0)),([52,49,55],(1,13,13,0)),([51,48],(0,1,8,0)),([51,55],(0,1,8,0)),([51,57,48],(0,1,15,57)),([51,57,50],(0,1,15,57)),([49,48],(3,1,20,0)),([50,49],(3,1,20,0)),([50,50],(3,1,20,0)),([50,53,52],(3,1,20,0)),([50,52,48],(3,1,30,0)),([50,52,49],(3,1,30,0)),([50,53,48],(3,1,30,0)),([50,53,49],(3,1,30,0)),([52,48,48],(3,1,30,0)),([52,48,49],(3,1,30,0)),([52,48,51],(3,1,30,0)),([57,48],(3,1,30,0)),([57,49],(3,1,90,0)),([57,50],(3,1,90,0)),([57,51],(3,1,90,0)),([57,52],(3,1,90,0)),([57,53],(3,1,90,0)),([57,54],(3,1,90,0)),([57,55],(3,1,90,0)),([57,56],(3,1,90,0)),([57,57],(3,1,90,0))]
theorem Ze7:Gs.dir=Gs.dirL:=Qct
theorem ZkY:∀p∈Gs.tabL,Gs.tabO (Gs.find p.1)=p.2:=Qct
theorem ZlY:Gs.sfx.all (fun a=>Gs.sfx.all fun b=>(Gs.tabL.find? fun p=>p.1== [a,b]).isSome || Gs.tab2 [a,b]==Gs.tabO (Gs.find [a,b]))=true:=by unfold Gs.find Gs.find2;rw[Ze7];exact Qct
theorem ZjP:Gs.sfx.all (fun a=>Gs.sfx.all fun b=>Gs.sfx.all fun c=>(Gs.tabL.find? fun p=>p.1== [a,b,c]).isSome || Gs.tab2 [a,b,c]==Gs.tabO (Gs.find [a,b,c]))=true:=by unfold Gs.find Gs.find2;rw[Ze7];exact Qct
def Gs.four (l:List UInt8) (g:Option Gs.Rule):Bool:=match g with
 |none=> !(l== [51,57,48] || l== [51,57,50])&& !Gs.rngB l
 |some r=>if r.2.2.2=0 then !(l== [51,57,48] || l== [51,57,50])&& !Gs.rngB l
  else if r.2.2.2=57 then(l== [51,57,48] || l== [51,57,50])&&(Gs.tabO (some r)==(4,15))
  else r.2.2.2==53&& !(l== [51,57,48] || l== [51,57,50])&&Gs.rngB l&&(Gs.tabO (some r)==(1,6))
theorem Zkt:Gs.sfx.all (fun a=>Gs.sfx.all fun b=>Gs.sfx.all fun c=>Gs.four [a,b,c] (Gs.get Gs.dir [a,b,c]))=true:=by rw[Ze7];exact Qct
theorem ZiL:∀p∈Gs.dir,p.1.length=4->p.1=[56,48,50,48]:=Qct
theorem ZfW {l:List UInt8} (h:Cd.AllDig l):∀c∈l,c∈Gs.sfx:=fun c hc=>Zgl c (h c hc).1 (h c hc).2
theorem Zcp {l:List UInt8} (h:l.all (fun c=>Cd.isDig c.toNat)=true):Cd.AllDig l:=by intro c hc;have:=Znd.1 h c hc;simp[Cd.isDig]at this;omega
theorem ZjK (l:List UInt8) (hl:l.length=4) (hd:Cd.AllDig l) (hn:l≠ [56,48,50,48]):Gs.tab2 l=Gs.tabO (Gs.find l):=by
 have hall:l.all (fun c=>Cd.isDig c.toNat)=true:=by rw[Znd];intro c hc;have:=hd c hc;simp[Cd.isDig];omega
 match l,hl with
 | [a,b,c,d],_=>
  have m:=ZfW hd
  have h4:=Zkt
  simp only[Znd]at h4
  have h4:=h4 a (m a QhQ) b (m b QhQ) c (m c QhQ)
  have hdd:=hd d QhQ
  have g0:Gs.get Gs.dir [a,b,c,d]=none:=by
   cases hg:Gs.get Gs.dir [a,b,c,d]with
   |none=>rfl
   |some r=>exact absurd (ZiL _ (Zby hg) rfl) hn
  have hf:Gs.find [a,b,c,d]=Gs.find2 [a,b,c,d]:=by unfold Gs.find;rw[g0];rfl
  rw[hf]
  unfold Gs.tab2 Gs.find2
  rw[hall]
  have t3: [a,b,c,d].take 3=[a,b,c]:=rfl
  have t4: [a,b,c,d].take ([a,b,c,d].length-1)=[a,b,c]:=rfl
  have g3: [a,b,c,d].getD 3 0=d:=rfl
  have g4: [a,b,c,d].getD ([a,b,c,d].length-1) 0=d:=rfl
  rw[t4,g4,t3,g3]
  rw[ZmF QhQ,ZmF QhQ,ZmF QhQ]
  cases hg:Gs.get Gs.dir [a,b,c]with
  |none=>rw[hg]at h4;simp only[Gs.four,Zno,ZpU,Zoz,ZmJ]at h4;rw[ZmF (fun h=>h.2.elim h4.1.1 h4.1.2),ZmF (fun h=>by rw[h4.2]at h;exact Bool.noConfusion h.2.2)];rfl
  |some r=>rw[hg]at h4;dsimp only;simp only[Gs.four]at h4;split at h4;(·rename_i h0;simp only[Zno,ZpU,Zoz,ZmJ]at h4;rw[ZmF (fun h=>h.2.elim h4.1.1 h4.1.2),ZmF (fun h=>by rw[h4.2]at h;exact Bool.noConfusion h.2.2),ZmH (.inl h0)];rfl);·rename_i h0;split at h4;(·rename_i h57;simp only[Zno,Zou,Znj]at h4;rw[ZmH ⟨rfl,h4.1⟩,ZmF,h4.2];rw[h57,ZaC,ZaC];have e1:(48:UInt8).toNat=48:=rfl;have e2:(57:UInt8).toNat=57:=rfl;have e3:(57:UInt8)≠0:=QhP;rw[e1,e2];intro h;rcases h with h|h|h;(·exact e3 h);(·omega);·omega);·simp only[Zno,ZpU,Zoz,ZmJ,Znj]at h4;obtain⟨⟨⟨h53,hno⟩,hr⟩,hv⟩:=h4;rw[ZmF (fun h=>h.2.elim hno.1 hno.2)];have e1:(48:UInt8).toNat=48:=rfl;have e2:(53:UInt8).toNat=53:=rfl;by_cases h5:d.toNat<=53;(·rw[ZmH ⟨rfl,h5,hr⟩,ZmF,hv];rw[h53,ZaC,ZaC,e1,e2];intro h;rcases h with h|h|h;(·exact absurd h QhP);(·omega);·omega);·rw[ZmF (fun h=>h5 h.2.1),ZmH];rfl;rw[h53,ZaC,ZaC,e1,e2];exact .inr (.inr QhN)
theorem ZlV (l:List UInt8):Gs.tab l=Gs.tabO (Gs.find l):=by
 unfold Gs.tab
 cases hf:Gs.tabL.find? fun p=>p.1==l with
 |some p=>have h1:=Zpl hf;have h2:=Zp2 hf;have h3:p.1=l:=QfS;dsimp only;rw[<-h3,ZkY p h1]
 |none=>
  dsimp only;by_cases hd:l.all (fun c=>Cd.isDig c.toNat)=true
  ·have hdd:=Zcp hd;have m:=ZfW hdd;by_cases hl:l.length=2∨l.length=3∨l.length=4
   ·rcases hl with hl|hl|hl
    ·match l,hl with
     | [a,b],_=>have h2:=ZlY;simp only[Znd]at h2;have h2:=h2 a (m a QhQ) b (m b QhQ);rw[hf]at h2;exact QfS
    ·match l,hl with
     | [a,b,c],_=>have h2:=ZjP;simp only[Znd]at h2;have h2:=h2 a (m a QhQ) b (m b QhQ) c (m c QhQ);rw[hf]at h2;exact QfS
    ·refine ZjK l hl hdd (fun e=> ?_);rw[e]at hf;exact absurd hf QhP
   ·have hn:Gs.find l=none:=by
     cases hg:Gs.find l with
     |none=>rfl
     |some r=>have:=ZaK hg;omega
    rw[hn];unfold Gs.tab2;rw[hd,ZmF QhQ,ZmF (fun h=>hl (.inl h.1)),ZmF (fun h=>hl (.inr (.inl h.1))),ZmF (fun h=>hl (.inr (.inr h.1))),ZmF (fun h=>hl (.inr (.inr h.1)))];rfl
  ·have hd':l.all (fun c=>Cd.isDig c.toNat)=false:=(by simpa using hd);have hn:Gs.find l=none:=by
    cases hg:Gs.find l with
    |none=>rfl
    |some r=>refine absurd ?_ hd;rw[Znd];intro c hc;have:=(ZaK hg).2.2.1 c hc;simp[Cd.isDig];omega
   rw[hn];unfold Gs.tab2;rw[ZmH hd'];rfl
theorem ZX (c:Int) (w:World):
 Calls prog 208 #[.int .u8 c] w fun e w'=>e=.returned (.bool (Cd.isDig c))∧w=w':=by
 go_enter func208,ntmps208
 go_wp2
 ·exact Qcw
 ·exact Qcs
theorem Zay (s:ByteArray) (p:UInt8->Bool) (k:Nat) (h:k<s.size):(s.data.toList.take (k+1)).all p=((s.data.toList.take k).all p&&p s[k]):=by rw[Z4 s k h,ZqF];simp
theorem ZaI (s:ByteArray) (p:UInt8->Bool) (k:Nat) (h:k<s.size) (hp:p s[k]=false):s.data.toList.all p=false:=Qe0
theorem Zgz (s:ByteArray) (hs:s.size<=maxLen) (w:World):
 Calls prog 249 #[.string s] w fun e w'=>e=.returned (.bool (s.data.toList.all (fun c=>Cd.isDig c.toNat)))∧w=w':=by
 have hmx:s.size<=9223372036854775807:=hs
 clear hs
 have HR:=ZmE (Eq.refl (s.data.toList.all (fun c=>Cd.isDig c.toNat)))
 generalize hres:s.data.toList.all (fun c=>Cd.isDig c.toNat)=res
 have HRES:=ZmE hres
 clear hres HR
 go_enter func249,ntmps249
 go_wp2
 go_loop [3] (fun i=>∃k:Nat,k<=s.size∧i=.int .i64 (k:Int)∧Hid ((s.data.toList.take k).all (fun c=>Cd.isDig c.toNat)=true)) (fun i=>s.size-(intOf i).toNat)
 case atStart=>exact QaF
 case round=>obtain⟨k,hk,rfl,hal⟩:=hrel;by_cases hlt:k<s.size;(·have HA:=ZmE (Zay s (fun c=>Cd.isDig c.toNat) k hlt);have HN:=ZmE (ZaI s (fun c=>Cd.isDig c.toNat) k hlt);cases hp:Cd.isDig (s[k].toNat:Int);(·have HP:=ZmE hp;have HF:Hid (res=false):=ZmE (by rw[<-HRES.out];exact HN.out hp);clear hp HA HN;go_wp2_with fail;refine(ZX _ _).mono ?_;rintro e w' ⟨rfl,rfl⟩;rw[HP.out];exact QbY);·have HP:=ZmE hp;have HO:Hid ((s.data.toList.take (k+1)).all (fun c=>Cd.isDig c.toNat)=true):=ZmE Qju;clear hp HA HN;go_wp2_with fail;refine(ZX _ _).mono ?_;rintro e w' ⟨rfl,rfl⟩;rw[HP.out];exact QaZ);·obtain rfl:k=s.size:=QhN;have HF:Hid (res=true):=ZmE (by rw[<-HRES.out,<-hal.out,Zx]);clear hk hlt hal;exact QbY
def NoKey (s:ByteArray):Prop:=(s.toList== [48,48])=false∧(s.toList== [48,49])=false∧(s.toList== [48,50])=false∧(s.toList== [49,49])=false∧(s.toList== [49,50])=false∧(s.toList== [49,51])=false∧(s.toList== [49,53])=false∧(s.toList== [49,54])=false∧(s.toList== [49,55])=false∧(s.toList== [50,48])=false∧(s.toList== [51,48])=false∧(s.toList== [51,55])=false∧(s.toList== [49,48])=false∧(s.toList== [50,49])=false∧(s.toList== [50,50])=false∧(s.toList== [50,53,52])=false∧(s.toList== [56,48,50,48])=false∧(s.toList== [50,52,48])=false∧(s.toList== [50,52,49])=false∧(s.toList== [50,53,48])=false∧(s.toList== [50,53,49])=false∧(s.toList== [52,48,48])=false∧(s.toList== [52,48,49])=false∧(s.toList== [52,48,51])=false∧(s.toList== [57,48])=false
theorem Zjj (s:ByteArray) (h:(Gs.tabL.find? fun p=>p.1==s.data.toList)=none):NoKey s:=by rw[ZpL]at h;simp only[Gs.tabL,Zn8,Zoy,ZpD,forall_eq_or_imp,forall_eq,Znj]at h;obtain⟨h00,h01,h02,h11,h12,h13,h15,h16,h17,h20,h30,h37,h10,h21,h22,h254,h8020,h240,h241,h250,h251,h400,h401,h403,h90⟩:=h;unfold NoKey;rw[Znk];exact⟨ZmJ.2 (fun e=>h00 e.symm),ZmJ.2 (fun e=>h01 e.symm),ZmJ.2 (fun e=>h02 e.symm),ZmJ.2 (fun e=>h11 e.symm),ZmJ.2 (fun e=>h12 e.symm),ZmJ.2 (fun e=>h13 e.symm),ZmJ.2 (fun e=>h15 e.symm),ZmJ.2 (fun e=>h16 e.symm),ZmJ.2 (fun e=>h17 e.symm),ZmJ.2 (fun e=>h20 e.symm),ZmJ.2 (fun e=>h30 e.symm),ZmJ.2 (fun e=>h37 e.symm),ZmJ.2 (fun e=>h10 e.symm),ZmJ.2 (fun e=>h21 e.symm),ZmJ.2 (fun e=>h22 e.symm),ZmJ.2 (fun e=>h254 e.symm),ZmJ.2 (fun e=>h8020 e.symm),ZmJ.2 (fun e=>h240 e.symm),ZmJ.2 (fun e=>h241 e.symm),ZmJ.2 (fun e=>h250 e.symm),ZmJ.2 (fun e=>h251 e.symm),ZmJ.2 (fun e=>h400 e.symm),ZmJ.2 (fun e=>h401 e.symm),ZmJ.2 (fun e=>h403 e.symm),ZmJ.2 (fun e=>h90 e.symm)⟩
def TabR (r:Int×Int) (w:World) (e:Ending) (w':World):Prop:=e=.returned (.tuple #[.int .i64 r.1,.int .i64 r.2])∧Ext w w'
theorem Zm5 (s:ByteArray):(s.extract 0 3).toList=s.data.toList.take 3:=by rw[Znk,Zr]
theorem ZjL (s:ByteArray) (hs:s.size<=maxLen) (w:World) (h:NoKey s):
 Calls prog 206 #[.string s] w (TabR (Gs.tab2 s.data.toList) w):=by
 have HD:=ZmE (Zgz s hs w)
 have HT:=ZmE (Gs.tab2.eq_1 s.data.toList)
 generalize Gs.tab2 s.data.toList=res at*
 unfold NoKey at h
 obtain⟨h00,h01,h02,h11,h12,h13,h15,h16,h17,h20,h30,h37,h10,h21,h22,h254,h8020,h240,h241,h250,h251,h400,h401,h403,h90⟩:=h
 rw[Zb]at HT
 cases hdd:s.data.toList.all (fun c=>Cd.isDig c.toNat)
 ·rw[hdd]at HD HT;have HR:Hid (res=(0,0)):=ZmE (by rw[HT.out,ZmH rfl]);clear HT hdd;exact QD
 ·rw[hdd]at HD HT;have HT1:=ZmE (HT.out.trans (ZmF QhQ));clear HT hdd;by_cases h2:s.size=2;(·have i2:((s.size:Int)==2)=true:=(by rw[h2];rfl);have i3:((s.size:Int)==3)=false:=(by rw[h2];rfl);have i4:((s.size:Int)==4)=false:=(by rw[h2];rfl);cases hb:Gs.leB s.data.toList [57,48];(·have HR:Hid (res=(5,90)):=ZmE (by rw[HT1.out,ZmH ⟨h2,hb⟩]);unfold Gs.leB at hb;rw[<-Znk,Zoz]at hb;obtain⟨j1,j2⟩:=hb;clear HT1 h2;exact QD);·have HR:Hid (res=(0,0)):=ZmE (by rw[HT1.out,ZmF (by rw[hb];simp),ZmF QhN,ZmF QhN,ZmF QhN]);unfold Gs.leB at hb;rw[<-Znk]at hb;clear HT1 h2;go_enter func206,ntmps206;go_wp2_with fail;refine HD.out.mono ?_;rintro e w' ⟨rfl,rfl⟩;cases hlt:Op.bytesLess s.toList [57,48];(·rw[hlt,Bool.false_or,h90]at hb;exact Bool.noConfusion hb);·clear hb;exact Qaf);by_cases h3:s.size=3;(·have i2:((s.size:Int)==2)=false:=(by rw[h3];rfl);have i3:((s.size:Int)==3)=true:=(by rw[h3];rfl);have i4:((s.size:Int)==4)=false:=(by rw[h3];rfl);cases hb1:Op.bytesLess s.data.toList [52,49,48];(·cases hb:Gs.leB s.data.toList [52,49,55];(·have HR:Hid (res=(0,0)):=ZmE (by rw[HT1.out,ZmF QhN,ZmF (by rw[hb];simp),ZmF QhN,ZmF QhN]);unfold Gs.leB at hb;rw[<-Znk]at hb hb1;rw[Zoz]at hb;obtain⟨j1,j2⟩:=hb;clear HT1 h2 h3;exact QD);·have HR:Hid (res=(2,13)):=ZmE (by rw[HT1.out,ZmF QhN,ZmH ⟨h3,hb1,hb⟩]);unfold Gs.leB at hb;rw[<-Znk]at hb hb1;clear HT1 h2 h3;cases hlt:Op.bytesLess s.toList [52,49,55];(·rw[hlt,Bool.false_or]at hb;exact QD);·clear hb;exact QD);·have HR:Hid (res=(0,0)):=ZmE (by rw[HT1.out,ZmF QhN,ZmF (by rw[hb1];simp),ZmF QhN,ZmF QhN]);rw[<-Znk]at hb1;clear HT1 h2 h3;exact QD);by_cases h4:s.size=4;(·have i2:((s.size:Int)==2)=false:=(by rw[h4];rfl);have i3:((s.size:Int)==3)=false:=(by rw[h4];rfl);have i4:((s.size:Int)==4)=true:=(by rw[h4];rfl);have hs3:3<s.size:=QhN;obtain⟨X,hX⟩:∃X,s.extract 0 3=X:=⟨_,rfl⟩;have HX:Hid (s.data.toList.take 3=X.toList):=ZmE (by rw[<-hX,Zm5]);rw[HX.out,gdat s 3 hs3]at HT1;have HT2:=ZmE (HT1.out.trans ((ZmF QhN).trans (ZmF QhN)));obtain⟨c,hc⟩:∃c,s[3]=c:=⟨_,rfl⟩;rw[hc]at HT2;clear HT1 h2 h3 HX;cases e0:X.toList== [51,57,48];(·cases e2:X.toList== [51,57,50];(·have HT3:=ZmE (HT2.out.trans (ZmF (fun h=>h.2.elim (fun e=>by rw[e]at e0;exact absurd e0 QhP) (fun e=>by rw[e]at e2;exact absurd e2 QhP))));clear HT2;by_cases h5:c.toNat<=53;(·have HRB:=ZmE (Gs.rngB.eq_1 X.toList);unfold Gs.leB at HRB;have HT4:Hid (res=if Gs.rngB X.toList=true then(1,6)else(0,0)):=ZmE (by rw[HT3.out];by_cases hr:Gs.rngB X.toList=true;(·rw[ZmH ⟨h4,h5,hr⟩,ZmH hr]);·rw[ZmF (fun h=>hr h.2.2),ZmF hr]);clear HT3;generalize Gs.rngB X.toList=rb at*;have h5i:(c.toNat:Int)<=53:=QhN;cases l1:Op.bytesLess X.toList [51,49,48];(·cases l2:Op.bytesLess X.toList [51,49,54];(·cases q2:X.toList== [51,49,54];(·cases l3:Op.bytesLess X.toList [51,50,48];(·cases l4:Op.bytesLess X.toList [51,51,55];(·cases q4:X.toList== [51,51,55];(·have HR:Hid (res=(0,0)):=ZmE Qj1;exact Qgx);·have HR:Hid (res=(1,6)):=ZmE Qj1;exact Qgx);·have HR:Hid (res=(1,6)):=ZmE (by rw[HT4.out,HRB.out,l1,l2,q2,l3,l4];rfl);exact Qgx);·have HR:Hid (res=(0,0)):=ZmE (by rw[HT4.out,HRB.out,l1,l2,q2,l3];rfl);exact Qgx);·have HR:Hid (res=(1,6)):=ZmE (by rw[HT4.out,HRB.out,l1,l2,q2];rfl);exact Qgx);·have HR:Hid (res=(1,6)):=ZmE (by rw[HT4.out,HRB.out,l1,l2];rfl);exact Qgx);·cases l3:Op.bytesLess X.toList [51,50,48];(·cases l4:Op.bytesLess X.toList [51,51,55];(·cases q4:X.toList== [51,51,55];(·have HR:Hid (res=(0,0)):=ZmE (by rw[HT4.out,HRB.out,l1,l3,l4,q4];rfl);exact Qgx);·have HR:Hid (res=(1,6)):=ZmE (by rw[HT4.out,HRB.out,l1,l3,l4,q4];rfl);exact Qgx);·have HR:Hid (res=(1,6)):=ZmE (by rw[HT4.out,HRB.out,l1,l3,l4];rfl);exact Qgx);·have HR:Hid (res=(0,0)):=ZmE (by rw[HT4.out,HRB.out,l1,l3];rfl);exact Qgx);·have HR:Hid (res=(0,0)):=ZmE (by rw[HT3.out,ZmF (fun h=>h5 h.2.1)]);have h5i:¬((c.toNat:Int)<=53):=QhN;have h5j:(53:Int)<(c.toNat:Int):=QhN;clear HT3 h4 h5;exact QD);·have HR:Hid (res=(4,15)):=ZmE (by rw[HT2.out,ZmH ⟨h4,.inr (by simpa using e2)⟩]);clear HT2 h4;exact QD);·have HR:Hid (res=(4,15)):=ZmE (by rw[HT2.out,ZmH ⟨h4,.inl (by simpa using e0)⟩]);clear HT2 h4;exact QD);·have i2:((s.size:Int)==2)=false:=Qai;have i3:((s.size:Int)==3)=false:=Qai;have i4:((s.size:Int)==4)=false:=Qai;have HR:Hid (res=(0,0)):=ZmE (by rw[HT1.out,ZmF QhN,ZmF QhN,ZmF QhN,ZmF QhN]);clear HT1 h2 h3 h4;exact QD
theorem Zin (s:ByteArray) (w:World) (p:List UInt8×(Int×Int)) (h1:p∈Gs.tabL) (h2:p.1=s.data.toList):
 Calls prog 206 #[.string s] w (TabR p.2 w):=by
 have HR:True:=trivial
 simp only[Gs.tabL,Zn8,Zoy,ZpD]at h1
 rcases h1 with rfl|rfl|rfl|rfl|rfl|rfl|rfl|rfl|rfl|rfl|rfl|rfl|rfl|rfl|rfl|rfl|rfl|rfl|rfl|rfl|rfl|rfl|rfl|rfl|rfl
 ·have hs0:s=⟨#[48,48]⟩:=Zh h2.symm;exact QM
 ·have hs0:s=⟨#[48,49]⟩:=Zh h2.symm;exact QM
 ·have hs0:s=⟨#[48,50]⟩:=Zh h2.symm;exact QM
 ·have hs0:s=⟨#[49,49]⟩:=Zh h2.symm;exact QM
 ·have hs0:s=⟨#[49,50]⟩:=Zh h2.symm;exact QM
 ·have hs0:s=⟨#[49,51]⟩:=Zh h2.symm;exact QM
 ·have hs0:s=⟨#[49,53]⟩:=Zh h2.symm;exact QM
 ·have hs0:s=⟨#[49,54]⟩:=Zh h2.symm;exact QM
 ·have hs0:s=⟨#[49,55]⟩:=Zh h2.symm;exact QM
 ·have hs0:s=⟨#[50,48]⟩:=Zh h2.symm;exact QM
 ·have hs0:s=⟨#[51,48]⟩:=Zh h2.symm;exact QM
 ·have hs0:s=⟨#[51,55]⟩:=Zh h2.symm;exact QM
 ·have hs0:s=⟨#[49,48]⟩:=Zh h2.symm;exact QM
 ·have hs0:s=⟨#[50,49]⟩:=Zh h2.symm;exact QM
 ·have hs0:s=⟨#[50,50]⟩:=Zh h2.symm;exact QM
 ·have hs0:s=⟨#[50,53,52]⟩:=Zh h2.symm;exact QM
 ·have hs0:s=⟨#[56,48,50,48]⟩:=Zh h2.symm;exact QM
 ·have hs0:s=⟨#[50,52,48]⟩:=Zh h2.symm;exact QM
 ·have hs0:s=⟨#[50,52,49]⟩:=Zh h2.symm;exact QM
 ·have hs0:s=⟨#[50,53,48]⟩:=Zh h2.symm;exact QM
 ·have hs0:s=⟨#[50,53,49]⟩:=Zh h2.symm;exact QM
 ·have hs0:s=⟨#[52,48,48]⟩:=Zh h2.symm;exact QM
 ·have hs0:s=⟨#[52,48,49]⟩:=Zh h2.symm;exact QM
 ·have hs0:s=⟨#[52,48,51]⟩:=Zh h2.symm;exact QM
 ·have hs0:s=⟨#[57,48]⟩:=Zh h2.symm;exact QM
theorem Zcl (s:ByteArray) (hs:s.size<=maxLen) (w:World):Calls prog 206 #[.string s] w (TabR (Gs.tabO (Gs.find s.data.toList)) w):=by
 rw[<-ZlV]
 unfold Gs.tab
 cases hf:Gs.tabL.find? fun p=>p.1==s.data.toList with
 |none=>exact ZjL s hs w (Zjj s hf)
 |some p=>exact Zin s w p (Zpl hf) (by simpa using Zp2 hf)
theorem ZfY:∀p∈Gs.dir,p.2.1=0->(p.2.2.1=p.2.2.2.1∨p.2.2.1=1):=Qct
theorem ZiG {l:List UInt8} {r:Gs.Rule} (h:Gs.find l=some r) (h0:r.1=0):r.2.1=r.2.2.1∨r.2.1=1:=by
 rcases Zb4 h with⟨h1,_⟩|⟨k,c,_,h1,_⟩;·exact ZfY _ h1 h0
 ·exact ZfY _ h1 h0
theorem Zd3 {r:Gs.Rule} (h:Gs.RuleOk r):1<=Gs.frm r∧Gs.frm r<=5∧(Gs.isFix r=true↔(Gs.frm r≠4∧Gs.frm r≠5)):=by
 obtain⟨k0,k3,l1,lh,h9,h2,h1,h3⟩:=h;unfold Gs.frm Gs.isFix;rw[Znj];by_cases c1:r.1=1;·rw[ZmH c1];have:=h1 c1;exact QcJ
 ·rw[ZmF c1];by_cases c2:r.1=2;(·rw[ZmH c2];have:=h2 c2;exact QcJ);·rw[ZmF c2];by_cases c3:r.1=3;(·rw[ZmH c3];have:=h3 c3;exact QcJ);·rw[ZmF c3];by_cases c4:r.2.1=r.2.2.1;(·rw[ZmH c4];exact QcJ);·rw[ZmF c4];exact QcJ
theorem Zde (s:ByteArray) (hs:s.size<=maxLen) (w:World):
 Calls prog 136 #[.string s] w fun e w'=>e=.returned (.tuple #[.int .i64 (Gs.fixF s.data.toList).1,.int .i64 (Gs.fixF s.data.toList).2.1,.int .i64 (Gs.fixF s.data.toList).2.2])∧Ext w w':=by
 have HT:=ZmE (Zcl s hs w)
 have HF:=ZmE (Gs.fixF.eq_1 s.data.toList)
 generalize Gs.fixF s.data.toList=res at*
 obtain⟨r1,r2,r3⟩:=res
 cases hg:Gs.find s.data.toList with
 |none=>rw[hg]at HF HT;dsimp only[Gs.tabO]at HF HT;have hr:=HF.out;simp only[Zn4]at hr;obtain⟨rfl,rfl,rfl⟩:=hr;clear hg HF;exact Qbt
 |some r=>rw[hg]at HF HT;dsimp only[Gs.tabO]at HF HT;obtain⟨f1,f5,ff⟩:=Zd3 (Za1 hg);have hr:=HF.out;simp only[Zn4]at hr;obtain⟨hr1,rfl,rfl⟩:=hr;generalize Gs.frm r=fm at*;generalize r.2.2.1=mo at*;have g0:(fm==0)=false:=Qai;have HR1:=ZmE hr1;clear hg HF hr1;by_cases h4:fm=4;(·have HZ:Hid (r1=0):=ZmE (by rw[HR1.out,ZmF (fun h=>(ff.1 h).1 h4)]);obtain rfl:=HZ.out;subst h4;clear ff HR1 HZ;exact Qbt);·by_cases h5:fm=5;(·have HZ:Hid (r1=0):=ZmE (by rw[HR1.out,ZmF (fun h=>(ff.1 h).2 h5)]);obtain rfl:=HZ.out;subst h5;clear ff HR1 HZ;exact Qbt);·have HZ:Hid (r1=mo):=ZmE (by rw[HR1.out,ZmH (ff.2 ⟨h4,h5⟩)]);have g4:(fm==4)=false:=Qjz;have g5:(fm==5)=false:=QjA;obtain rfl:=HZ.out;clear ff HR1 HZ h4 h5;exact Qbt
theorem Zlu (c:UInt8):∀l:List UInt8,(∀i,i<l.length->l.getD i 0≠c)->Lib.indexByte l c= -1:=by
 intro l
 induction l with
 |nil=>intro _;rfl
 |cons b l ih=>intro h;have h0:=h 0 QhQ;have hb:(b==c)=false:=QiH;have:=ih (fun i hi=>by have:=h (i+1) QhY;simpa using this);simp[Lib.indexByte,hb,this]
theorem Zky (c:UInt8):∀(l:List UInt8) (i:Nat),i<l.length->l.getD i 0=c->0<=Lib.indexByte l c:=by
 intro l
 induction l with
 |nil=>intro i h;simp at h
 |cons b l ih=>
  intro i hi h;unfold Lib.indexByte;split;(·exact Int.le_refl _)
  ·rename_i hb
   cases i with
   |zero=>simp at h;rw[h]at hb;simp at hb
   |succ i=>have:=ih i Qiv Qh1;split;(·rename_i h1;simp at h1;omega);·omega
def symB:ByteArray:=⟨#[33,34,37,38,39,42,43,44,45,46,47,58,59,60,61,62,63,95]⟩
theorem Zc1 (c:UInt8) (w:World):
 Calls prog 207 #[.int .u8 (c.toNat:Int)] w fun e w'=>e=.returned (.bool (Cd.isDig c.toNat || Gs.charB c))∧w=w':=by
 have HC:=ZmE (Gs.charB.eq_1 c)
 have HNO:Hid ((∀i,i<18->symB.data.toList.getD i 0≠c)->Lib.indexByte Gs.symbols c= -1):=ZmE (fun h=>Zlu c Gs.symbols h)
 have HYES:Hid (∀i,i<18->symB.data.toList.getD i 0=c->0<=Lib.indexByte Gs.symbols c):=ZmE (fun i hi h=>Zky c Gs.symbols i hi h)
 generalize Gs.charB c=cb at*
 generalize Lib.indexByte Gs.symbols c=x at*
 have HD:=ZmE (ZX (c.toNat:Int) w)
 cases hd:Cd.isDig c.toNat
 ·rw[hd]at HD;by_cases h1:65<=c.toNat∧c.toNat<=90;(·obtain⟨n1,n2⟩:=h1;have HR:Hid (cb=true):=ZmE (by rw[HC.out,ZmR n1,ZmR n2];rfl);clear HC HNO HYES hd;exact Qdl);have e1:(decide (65<=c.toNat)&&decide (c.toNat<=90))=false:=QcB;by_cases h2:97<=c.toNat∧c.toNat<=122;(·obtain⟨n1,n2⟩:=h2;have n3:90<c.toNat:=QhN;have n4:65<=c.toNat:=QhN;have HR:Hid (cb=true):=ZmE (by rw[HC.out,e1,ZmR n1,ZmR n2];rfl);clear HC HNO HYES hd e1 h1;exact Qdl);have e2:(decide (97<=c.toNat)&&decide (c.toNat<=122))=false:=QcB;have HR:Hid (cb=decide (0<=x)):=ZmE (by rw[HC.out,e1,e2];rfl);have hn:c.toNat<65∨(90<c.toNat∧c.toNat<97)∨122<c.toNat:=QhN;clear HC e1 e2 h1 h2 hd;have key:∀(A:World),A=w->(65<=c.toNat->90<c.toNat)->(97<=c.toNat->122<c.toNat)->True:=fun _ _ _ _=>trivial;clear key;rcases hn with hn|⟨hn,hn2⟩|hn;(·have m1:c.toNat<65:=hn;have m2:c.toNat<97:=QhN;clear hn;exact Qv);(·have m1:65<=c.toNat:=QhN;exact Qv);·have m1:65<=c.toNat:=QhN;have m2:90<c.toNat:=QhN;have m3:97<=c.toNat:=QhN;exact Qv
 ·rw[hd]at HD;clear HC HNO HYES;go_enter func207,ntmps207;go_wp2_with fail;refine HD.out.mono ?_;rintro e w' ⟨rfl,rfl⟩;exact QaU
theorem ZfD (s:ByteArray) (hs:2<=s.size) (hd:Cd.AllDig s.data.toList) (w:World) (hm:s.size<=1000):
 Calls prog 250 #[.string s] w fun e w'=>e=.returned (.int .i64 (Gs.num2 s.data.toList 0))∧Ext w w':=by
 have HN:=ZmE (Gs.num2.eq_1 s.data.toList 0)
 have h0:0<s.size:=by omega
 have h1:1<s.size:=by omega
 have hi0:(0:Int)<(s.size:Int):=by omega
 have hi1:(1:Int)<(s.size:Int):=by omega
 rw[gdat s 0 h0,gdat s (0+1) h1]at HN
 generalize Gs.num2 s.data.toList 0=N at*
 obtain⟨a1,a2⟩:=hd _ (Zj s 0 h0)
 obtain⟨a3,a4⟩:=hd _ (Zj s 1 h1)
 replace HN:Hid (N=10*Cd.dg s[0]+Cd.dg s[1]):=ZmE HN.out
 clear hd
 go_enter func250,ntmps250
 go_wp2
 go_quiet (fail)
 go_wp2
 go_ret
 exact⟨Zt (by rw[HN.out];simp[Cd.dg]),Xf⟩
theorem ZhJ (l:List UInt8) (k n:Nat) (h:k+1<l.length) (hn:2<=n):Gs.num2 ((l.drop k).take n) 0=Gs.num2 l k:=by
 unfold Gs.num2;have e:∀i,i<n->((l.drop k).take n).getD i 0=l.getD (k+i) 0:=by intro i hi;rw[ZmL,ZmL,Zog,ZmH hi,Zp3]
 rw[e 0 QhN,e (0+1) QhN];rfl
theorem Zki {l:List UInt8} (h:Cd.AllDig l) (k n:Nat):Cd.AllDig ((l.drop k).take n):=fun c hc=>h c (Zof (Zn0 hc))
theorem ZhT (s:ByteArray) (hs:s.size=6) (hd:Cd.AllDig s.data.toList) (w:World):
 Calls prog 209 #[.string s] w fun e w'=>e=.returned (.bool (Gs.dateB s.data.toList))∧Ext w w':=by
 have hl:s.data.toList.length=6:=by rw[Zb];exact hs
 obtain⟨y0,y9⟩:=ZaP hd (k:=0) QhN
 obtain⟨m0,m9⟩:=ZaP hd (k:=2) QhN
 obtain⟨d0,d9⟩:=ZaP hd (k:=4) QhN
 have sub:∀a b:Nat,a+2<=b->b<=6->∀w,Calls prog 250 #[.string (s.extract a b)] w fun e w'=>e=.returned (.int .i64 (Gs.num2 s.data.toList a))∧Ext w w':=by intro a b hab hb w;have:=ZfD (s.extract a b) Qh2 (by rw[Zs];exact Zki hd a (b-a)) w Qh2;rw[Zs,ZhJ _ _ _ QhN QhN]at this;exact QeN
 have H0:=ZmE (sub 0 2 QhN QhN)
 have H2:=ZmE (sub 2 4 QhN QhN)
 have H4:=ZmE (sub 4 6 QhN QhN)
 have HB:=ZmE (Gs.dateB.eq_1 s.data.toList)
 generalize Gs.dateB s.data.toList=res at*
 generalize Gs.num2 s.data.toList 0=y at*
 generalize Gs.num2 s.data.toList 2=m at*
 generalize Gs.num2 s.data.toList 4=d at*
 have hs4:4<=s.size:=by omega
 have hs6:s.size<=6:=by omega
 have HS:=ZmE hs
 have HE4:Hid (s.extract 4 s.size=s.extract 4 6):=ZmE (by rw[hs])
 clear hl hs hd sub
 by_cases hm1:m<1
 ·have HR:Hid (res=false):=ZmE (by rw[HB.out,Gs.dateOf,ZmH (.inl hm1)]);clear HB;exact Qdq
 by_cases hm2:12<m
 ·have HR:Hid (res=false):=ZmE (by rw[HB.out,Gs.dateOf,ZmH (.inr hm2)]);have hm3:1<=m:=QhN;clear HB hm1;exact Qdq
 have HR:Hid (res=decide (d<=Gs.days.getD (m-1).toNat 0+(if m=2∧y%4=0 then 1 else 0))):=ZmE (by rw[HB.out,Gs.dateOf,ZmF QhN])
 have hmm:m=1∨m=2∨m=3∨m=4∨m=5∨m=6∨m=7∨m=8∨m=9∨m=10∨m=11∨m=12:=by omega
 clear HB hm1 hm2 m0 m9
 rcases hmm with rfl|hmm
 ·replace HR:Hid (res=decide (d<=31)):=ZmE HR.out;clear H0;go_enter func209,ntmps209;go_wp2_with fail;refine(H2.out _).mono ?_;rintro e w1 ⟨rfl,hx1⟩;go_wp2_with fail;rw[HE4.out];refine(H4.out _).mono ?_;rintro e w2 ⟨rfl,hx2⟩;exact QcM
 rcases hmm with rfl|hmm
 ·have HR1:Hid (res=decide (d<=28+(if(2:Int)=2∧y%4=0 then 1 else 0))):=ZmE HR.out;clear HR;by_cases hy:y%4=0;(·have HR:Hid (res=decide (d<=29)):=ZmE (by rw[HR1.out,ZmH ⟨rfl,hy⟩];rfl);exact QbQ);·have HR:Hid (res=decide (d<=28)):=ZmE (by rw[HR1.out,ZmF (fun h=>hy h.2)];rfl);have hy1:(y%4==0)=false:=(by simpa using hy);exact QbQ
 rcases hmm with rfl|rfl|rfl|rfl|rfl|rfl|rfl|rfl|rfl|rfl
 all_goals replace HR:Hid (res=decide (d<=_)):=ZmE HR.out;clear H0;go_enter func209,ntmps209;go_wp2_with fail;refine(H2.out _).mono ?_;rintro e w1 ⟨rfl,hx1⟩;go_wp2_with fail;rw[HE4.out];refine(H4.out _).mono ?_;rintro e w2 ⟨rfl,hx2⟩;go_wp2;go_ret;exact⟨Zi HR.out.symm,Xf⟩
theorem Zh6 (l:List UInt8) (h:Cd.AllDig l):0<=(Cd.gsF l).1∧(Cd.gsF l).1<=27*l.length:=by
 induction l with
 |nil=>simp[Cd.gsF]
 |cons c l ih=>have h1:=ih (fun x hx=>h x (Zne _ hx));have h2:=Cd.dg_bd (h c (Znh ..));have h3:=Cd.gsF_w l;simp only[Cd.gsF,ZmQ];split at h3<;>rw[h3]<;>omega
theorem Zlp (l:List UInt8):(Cd.gsF l).2=1∨(Cd.gsF l).2=3:=by have:=Cd.gsF_w l;split at this<;>omega
theorem ZeQ (s:ByteArray) (h2:1<=s.size) (h100:s.size<=100) (hd:Cd.AllDig s.data.toList) (w:World):
 Calls prog 210 #[.string s] w fun e w'=>e=.returned (.bool (decide ((Cd.gsF s.data.toList).1%10=0)))∧w=w':=by
 have HD:=ZmE hd
 have HRES:=ZmE (Eq.refl (decide ((Cd.gsF s.data.toList).1%10=0)))
 generalize hres:decide ((Cd.gsF s.data.toList).1%10=0)=res at*
 have HR:=ZmE hres
 clear hd hres HRES
 obtain⟨n,hn⟩:∃n,s.size=n+1:=⟨s.size-1,by omega⟩
 have hni:(s.size:Int)-1=(n:Int):=by omega
 have HN:=ZmE hn
 have hns:n<s.size:=by omega
 clear hn
 go_enter func210,ntmps210
 go_wp2
 go_loop [3,4,5] (fun a b i=>∃x y:Int,a=.int .i64 x∧b=.int .i64 y∧((∃j:Nat,j<s.size∧i=.int .i64 (j:Int)∧Hid ((x,y)=Cd.gsF (s.data.toList.drop (j+1))))∨(i=.int .i64 (-1)∧Hid ((x,y)=Cd.gsF s.data.toList)))) (fun _ _ i=>(intOf i+1).toNat)
 case atStart=>exact⟨0,1,rfl,rfl,.inl ⟨n,hns,rfl,ZmE (by rw[<-HN.out,ZU];rfl)⟩⟩
 case round=>obtain⟨x,y,rfl,rfl,hc⟩:=hrel;rcases hc with⟨j,hj,rfl,hg⟩|⟨rfl,hg⟩;(·have HDC:=ZmE (ZV s j hj);have hb:=Zh6 (s.data.toList.drop (j+1)) (fun c hc=>HD.out c (Zof hc));have hw:=Zlp (s.data.toList.drop (j+1));have hll:=Zz s (j+1);rw[<-hg.out]at hb hw;dsimp only at hb hw;obtain⟨b0,b1⟩:=hb;obtain⟨c1,c2⟩:=HD.out _ (Zj s j hj);have hx27:x<=2700:=QhN;obtain⟨c,hcc⟩:∃c,s[j]=c:=⟨_,rfl⟩;rw[hcc]at c1 c2 HDC;have HNX:Hid (Cd.gsF (s.data.toList.drop j)=(x+y*Cd.dg c,4-y)):=ZmE (by rw[HDC.out,Cd.gsF,<-hg.out]);have HDG:Hid (Cd.dg c=(c.toNat:Int)-48):=ZmE rfl;have hj0:(0:Int)<=(j:Int):=QhN;have hy3:1<=y∧y<=3:=QhN;have hw':=hw;obtain⟨y1,y3⟩:=hy3;clear hg hll b1 HDC;have HPR:Hid (0<=y*((c.toNat:Int)-48)∧y*((c.toNat:Int)-48)<=27):=ZmE (by rcases hw' with rfl|rfl<;>omega);clear hw hw';obtain⟨pr0,pr1⟩:=HPR.out;rcases Zp1 j with hjz|hjp;(·subst hjz;have HN0:Hid (Cd.gsF s.data.toList=(x+y*Cd.dg c,4-y)):=ZmE (by have:=HNX.out;rw[Zoh]at this;exact this);go_wp2;go_round;(case rel=>exact⟨_,_,rfl,rfl,.inr ⟨by go_num,ZmE (by rw[HN0.out,HDG.out])⟩⟩);case measure=>simp[intOf]);·obtain⟨k,rfl⟩:∃k,j=k+1:=⟨j-1,by omega⟩;go_wp2;go_round;(case rel=>exact⟨_,_,rfl,rfl,.inl ⟨k,by omega,by go_num,ZmE (by rw[HNX.out,HDG.out])⟩⟩);case measure=>exact Q8);·have HF:Hid (res=decide (x%10=0)):=ZmE (by rw[<-HR.out,<-hg.out]);have hb:=Zh6 s.data.toList HD.out;rw[<-hg.out]at hb;dsimp only at hb;obtain⟨b0,b1⟩:=hb;clear hg b1;go_wp2;go_ret;exact⟨Zi (by rw[HF.out];simp[Bool.beq_eq_decide_eq]),rfl⟩
end
end Go.Proofs.YtbngggoccndefaaGreatDoor
