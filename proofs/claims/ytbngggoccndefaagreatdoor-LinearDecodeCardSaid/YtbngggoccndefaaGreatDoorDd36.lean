/-
  Laid together.
-/
import Derived.Test.YtbngggoccndefaaGreatDoorDd35
set_option maxHeartbeats 16000000
set_option maxRecDepth 100000
set_option linter.unusedVariables false
set_option linter.unusedSimpArgs false
set_option linter.ambiguousOpen false
namespace Go.Proofs.YtbngggoccndefaaGreatDoor
open Go.Proofs.Tryz
section
open Go.RowKit
theorem Zfs (k:Int) (s a:ByteArray) (hs:s.size<=9223372036854775807) (ha:a.size<=9223372036854775807) (w:World):
 Calls prog 64 #[.int .i64 k,.string s,.string a] w (BoolsE (Ea.enc k s.data.toList a.data.toList) w):=by
 have HX:=ZmE (Ea.enc.eq_1 k s.data.toList a.data.toList)
 have HF:=ZmE (ZcW k s.data.toList)
 have HD:=ZmE (Za0 s hs)
 have HDA:=ZmE (Za0 a ha)
 have HZ:=ZmE (ZbU k)
 have HQ:=ZmE (ZhO k)
 rw[Zb]at HX HF
 by_cases h1:Ea.size k=0
 ·rw[ZmH h1]at HF;rw[HF.out,ZmH QhP]at HX;rw[h1]at HZ;generalize Ea.enc k s.data.toList a.data.toList=res at*;clear h1 HF;go_enter func64,ntmps64;go_wp2_with fail;refine(HZ.out _).mono ?_;exact QbN
 ·rw[ZmF h1]at HF;have hkk:=Ea.kinds h1;obtain⟨hn1,hn2⟩:8<=Ea.size k∧Ea.size k<=13:=Qfo;have b1:((Ea.size k:Int)==0)=false:=ZmJ.2 QhN;by_cases h2:Ea.digs s.data.toList=false;(·rw[ZmH h2]at HF;rw[HF.out,ZmH QhP]at HX;rw[h2]at HD;generalize Ea.enc k s.data.toList a.data.toList=res at*;generalize Ea.size k=n at*;clear h1 h2 hkk hn1 hn2 HF;exact QgI)
  ·have h2':Ea.digs s.data.toList=true:=QfS;rw[ZmF h2]at HF;rw[h2']at HD;by_cases h3:s.size≠Ea.size k;(·rw[ZmH h3]at HF;rw[HF.out,ZmH QhP]at HX;generalize Ea.enc k s.data.toList a.data.toList=res at*;generalize Ea.size k=n at*;have b3:((s.size:Int) !=(n:Int))=true:=Qcm;clear h1 h2 h2' h3 hkk hn1 hn2 HF;exact QgI)
   ·rw[ZmF h3]at HF;have h3':s.size=Ea.size k:=QhN;have b3:((s.size:Int) !=(Ea.size k:Int))=false:=Qcm;have hn4:k=4->Ea.size k=8:=(by rintro rfl;rfl);have HRI:=ZmE (ZaG k s h2' (by by_cases e:k=4;exact .inl ⟨e,by rw[h3',hn4 e]⟩;exact .inr ⟨e,by omega,by omega⟩));have HN:=ZmE (Zcf s QhN);rw[Zgj s QhN h2']at HN;clear h3' hn4;by_cases h4:k=4
    ·subst h4;by_cases h6:s.data.toList.getD 0 0<=49
     ·rw[ZmF (fun h=>h.2 h6)]at HF;rw[ZmR h6]at HN;clear h6;by_cases h5:Ea.good (if(4:Int)=4 then Ea.exp8 s.data.toList else s.data.toList)
      ·rw[ZmH h5]at HF;rw[ZmR h5]at HRI;have hf0:Ea.full 4 s.data.toList=0:=HF.out;rw[HF.out,ZmF QhP]at HX;by_cases a1:Ea.digs a.data.toList=false;(·rw[ZmH a1]at HX;rw[a1]at HDA;generalize Ea.enc 4 s.data.toList a.data.toList=res at*;generalize Ea.size 4=n at*;exact Qgo)
       ·have a1':Ea.digs a.data.toList=true:=(by simpa using a1);rw[ZmF a1]at HX;rw[a1']at HDA;by_cases a2:a.size≠0∧a.size≠2∧a.size≠5;(·rw[ZmH a2]at HX;generalize Ea.enc 4 s.data.toList a.data.toList=res at*;generalize Ea.size 4=n at*;have z0:((a.size:Int) !=0)=true:=ZnA.2 QhN;have z2:((a.size:Int) !=2)=true:=ZnA.2 QhN;have z5:((a.size:Int) !=5)=true:=ZnA.2 QhN;clear a1 a1' a2;exact Qgo)
        ·rw[ZmF a2]at HX;have HSY:=ZmE (Zdq 4 s hf0);obtain⟨Y,hY,hYl,hYs⟩:=named (l:=Ea.sym 4 s.data.toList);rw[hY]at HSY;rw[Ea.sym_len hf0]at hYs;have hYs:Y.size<=95:=(by rw[hYs];unfold Ea.wOf;exact QdT);have hlq:Ea.lq 4<=11:=(by unfold Ea.lq;exact QdT);have hrq:Ea.rq 4<=9:=(by unfold Ea.rq;exact QhE);have HL:=ZmE (Z9 (Ea.lq 4) QhN);obtain⟨L,hL,hLl,hLs⟩:=named (l:=Ea.lgt (Ea.lq 4));rw[hL]at HL;rw[Ea.lgt_len]at hLs;by_cases a3:a.size=0;(·rw[ZmH a3]at HX;have HRQ:=ZmE (Z9 (Ea.rq 4) QhN);obtain⟨Q,hQ,hQl,hQs⟩:=named (l:=Ea.lgt (Ea.rq 4));rw[hQ]at HRQ;rw[Ea.lgt_len]at hQs;have HMO:=ZmE (ZaA (L++Y++Q) (Ea.lgt (Ea.lq 4)++Ea.sym 4 s.data.toList++Ea.lgt (Ea.rq 4)) QiW (by rw[ZmM,ZmM,Ea.lgt_len,Ea.lgt_len,<-Ea.mS_len (Ea.sym 4 s.data.toList),<-hYl,Zb];omega));have hLs:L.size<=11:=QhN;have hQs:Q.size<=9:=QhN;have zz:a.toList=[]:=(by rw[Znk,(ZW a).2 a3]);have zy:a.toList.isEmpty=true:=(by rw[zz];rfl);have z0:((a.size:Int) !=0)=false:=(by rw[a3];rfl);generalize Ea.enc 4 s.data.toList a.data.toList=res at*;generalize Ea.size 4=n at*;generalize Ea.lq 4=lq at*;generalize Ea.rq 4=rq at*;clear a1 a1' a2 a3 hf0 hY hYl hL hLl hQ hQl;clear h1 h2 h2' h3 h5 hkk hn1 HF;go_enter func64,ntmps64;go_wp2_with fail;refine(HZ.out _).mono ?_;rintro e w1 ⟨rfl,rfl⟩;go_wp2_with fail;refine(HD.out _).mono ?_;rintro e w1 ⟨rfl,rfl⟩;go_wp2_with fail;refine(HN.out _).mono ?_;exact QaS)
         ·rw[ZmF a3]at HX;have a25:a.size=2∨a.size=5:=QhN;obtain⟨e1,e2⟩:=Ea.setsAdd_ok (a:=a.data.toList) Qiz;have HAS:=ZmE (ZaH a a25 a1');have HDR:=ZmE (Zah a (Ea.bS (Ea.sS (Ea.setsAdd a.data.toList))) ⟨#[48,49]⟩ (Ea.setsAdd a.data.toList) Ea.gA a1' rfl (by rw[e1,Zb]) (fun u hu=>by have:=e2 u hu;omega) rfl QhN QhP);have hAL:=Ea.addn_len a1' Qiz;unfold Ea.addn at hAL;rw[ZmM,Zb]at hAL;obtain⟨G,hG,hGl,hGs⟩:=named (l:=Ea.drw Ea.gA a.data.toList (Ea.setsAdd a.data.toList));rw[hG]at HDR;have hw47:Ea.wAdd a.size<=47:=(by unfold Ea.wAdd;exact QdT);have hGs:G.size<=47:=QhN;have HL9:=ZmE (Z9 9 QhN);obtain⟨N9,h9,h9l,h9s⟩:=named (l:=Ea.lgt 9);rw[h9]at HL9;rw[Ea.lgt_len]at h9s;have HL7:=ZmE (Z9 7 QhN);obtain⟨N7,h7,h7l,h7s⟩:=named (l:=Ea.lgt 7);rw[h7]at HL7;rw[Ea.lgt_len]at h7s;have HMO:=ZmE (ZaA (L++Y++(N9++⟨#[49,48,49,49]⟩++G)++N7) (Ea.lgt (Ea.lq 4)++Ea.sym 4 s.data.toList++Ea.lgt 9++Ea.addn a.data.toList++Ea.lgt 7) (by
           simp only[Znt,Znw,hLl,hYl,h9l,h7l,hGl,Ea.mS_app,Ea.addn,Znu];rfl) (by
           have e3:(Ea.addn a.data.toList).length<=47:=Qfx;simp only[ZmM,Ea.lgt_len];rw[<-Ea.mS_len (Ea.sym 4 s.data.toList),<-hYl,Zb];omega))
          have hLs:L.size<=11:=QhN;obtain⟨T,hT⟩:∃T,Ea.bS (Ea.sS (Ea.setsAdd a.data.toList))=T:=⟨_,rfl⟩;rw[hT]at HAS HDR;have zy:a.toList.isEmpty=false:=QeJ;have z0:((a.size:Int) !=0)=true:=ZnA.2 QhN;have z25:((a.size:Int) !=2&&(a.size:Int) !=5)=false:=(by rcases a25 with h|h<;>rw[h]<;>rfl);generalize Ea.enc 4 s.data.toList a.data.toList=res at*;generalize Ea.size 4=n at*;generalize Ea.lq 4=lq at*;generalize Ea.rq 4=rq at*;have ha5:a.size<=5:=QhN;clear a1 a1' a2 a3 hf0 hY hYl hL hLl h9 h9l h7 h7l hG hGl e1 e2 hAL hw47 hT;rcases a25 with a25|a25;(·have z2:((a.size:Int) !=2)=false:=QiU;exact Qgl);·have z2:((a.size:Int) !=2)=true:=QiU;have z5:((a.size:Int) !=5)=false:=QiU;exact Qgl
      ·rw[ZmF h5]at HF;rw[ZmS h5]at HRI;rw[HF.out,ZmH QhP]at HX;generalize Ea.enc 4 s.data.toList a.data.toList=res at*;generalize Ea.size 4=n at*;clear h1 h2 h2' h3 h5 hkk hn1 HF;go_enter func64,ntmps64;go_wp2_with fail;refine(HZ.out _).mono ?_;rintro e w1 ⟨rfl,rfl⟩;go_wp2_with fail;refine(HD.out _).mono ?_;rintro e w1 ⟨rfl,rfl⟩;go_wp2_with fail;refine(HN.out _).mono ?_;exact Qg2
     ·rw[ZmH ⟨rfl,h6⟩]at HF;rw[HF.out,ZmH QhP]at HX;rw[ZmS h6]at HN;generalize Ea.enc 4 s.data.toList a.data.toList=res at*;generalize Ea.size 4=n at*;clear h1 h2 h2' h3 h6 hkk hn1 HF HRI;go_enter func64,ntmps64;go_wp2_with fail;refine(HZ.out _).mono ?_;rintro e w1 ⟨rfl,rfl⟩;go_wp2_with fail;refine(HD.out _).mono ?_;rintro e w1 ⟨rfl,rfl⟩;go_wp2_with fail;refine(HN.out _).mono ?_;exact QbN
    ·have b4:(k==4)=false:=ZmJ.2 h4;rw[ZmF (fun h=>h4 h.1)]at HF;by_cases h5:Ea.good (if k=4 then Ea.exp8 s.data.toList else s.data.toList)
     ·rw[ZmH h5]at HF;rw[ZmR h5]at HRI;have hf0:Ea.full k s.data.toList=0:=HF.out;rw[HF.out,ZmF QhP]at HX;by_cases a1:Ea.digs a.data.toList=false;(·rw[ZmH a1]at HX;rw[a1]at HDA;generalize Ea.enc k s.data.toList a.data.toList=res at*;generalize Ea.size k=n at*;exact Qgw)
      ·have a1':Ea.digs a.data.toList=true:=(by simpa using a1);rw[ZmF a1]at HX;rw[a1']at HDA;by_cases a2:a.size≠0∧a.size≠2∧a.size≠5;(·rw[ZmH a2]at HX;generalize Ea.enc k s.data.toList a.data.toList=res at*;generalize Ea.size k=n at*;have z0:((a.size:Int) !=0)=true:=ZnA.2 QhN;have z2:((a.size:Int) !=2)=true:=ZnA.2 QhN;have z5:((a.size:Int) !=5)=true:=ZnA.2 QhN;clear a1 a1' a2;exact Qgw)
       ·rw[ZmF a2]at HX;have HSY:=ZmE (Zdq k s hf0);obtain⟨Y,hY,hYl,hYs⟩:=named (l:=Ea.sym k s.data.toList);rw[hY]at HSY;rw[Ea.sym_len hf0]at hYs;have hYs:Y.size<=95:=(by rw[hYs];unfold Ea.wOf;exact QdT);have hlq:Ea.lq k<=11:=(by unfold Ea.lq;exact QdT);have hrq:Ea.rq k<=9:=(by unfold Ea.rq;exact QhE);have HL:=ZmE (Z9 (Ea.lq k) QhN);obtain⟨L,hL,hLl,hLs⟩:=named (l:=Ea.lgt (Ea.lq k));rw[hL]at HL;rw[Ea.lgt_len]at hLs;by_cases a3:a.size=0;(·rw[ZmH a3]at HX;have HRQ:=ZmE (Z9 (Ea.rq k) QhN);obtain⟨Q,hQ,hQl,hQs⟩:=named (l:=Ea.lgt (Ea.rq k));rw[hQ]at HRQ;rw[Ea.lgt_len]at hQs;have HMO:=ZmE (ZaA (L++Y++Q) (Ea.lgt (Ea.lq k)++Ea.sym k s.data.toList++Ea.lgt (Ea.rq k)) QiW (by rw[ZmM,ZmM,Ea.lgt_len,Ea.lgt_len,<-Ea.mS_len (Ea.sym k s.data.toList),<-hYl,Zb];omega));have hLs:L.size<=11:=QhN;have hQs:Q.size<=9:=QhN;have zz:a.toList=[]:=(by rw[Znk,(ZW a).2 a3]);have zy:a.toList.isEmpty=true:=(by rw[zz];rfl);have z0:((a.size:Int) !=0)=false:=(by rw[a3];rfl);generalize Ea.enc k s.data.toList a.data.toList=res at*;generalize Ea.size k=n at*;generalize Ea.lq k=lq at*;generalize Ea.rq k=rq at*;clear a1 a1' a2 a3 hf0 hY hYl hL hLl hQ hQl;clear h1 h2 h2' h3 h5 hkk hn1 HF h4;go_enter func64,ntmps64;go_wp2_with fail;refine(HZ.out _).mono ?_;rintro e w1 ⟨rfl,rfl⟩;go_wp2_with fail;refine(HD.out _).mono ?_;exact QaS)
        ·rw[ZmF a3]at HX;have a25:a.size=2∨a.size=5:=QhN;obtain⟨e1,e2⟩:=Ea.setsAdd_ok (a:=a.data.toList) Qiz;have HAS:=ZmE (ZaH a a25 a1');have HDR:=ZmE (Zah a (Ea.bS (Ea.sS (Ea.setsAdd a.data.toList))) ⟨#[48,49]⟩ (Ea.setsAdd a.data.toList) Ea.gA a1' rfl (by rw[e1,Zb]) (fun u hu=>by have:=e2 u hu;omega) rfl QhN QhP);have hAL:=Ea.addn_len a1' Qiz;unfold Ea.addn at hAL;rw[ZmM,Zb]at hAL;obtain⟨G,hG,hGl,hGs⟩:=named (l:=Ea.drw Ea.gA a.data.toList (Ea.setsAdd a.data.toList));rw[hG]at HDR;have hw47:Ea.wAdd a.size<=47:=(by unfold Ea.wAdd;exact QdT);have hGs:G.size<=47:=QhN;have HL9:=ZmE (Z9 9 QhN);obtain⟨N9,h9,h9l,h9s⟩:=named (l:=Ea.lgt 9);rw[h9]at HL9;rw[Ea.lgt_len]at h9s;have HL7:=ZmE (Z9 7 QhN);obtain⟨N7,h7,h7l,h7s⟩:=named (l:=Ea.lgt 7);rw[h7]at HL7;rw[Ea.lgt_len]at h7s;have HMO:=ZmE (ZaA (L++Y++(N9++⟨#[49,48,49,49]⟩++G)++N7) (Ea.lgt (Ea.lq k)++Ea.sym k s.data.toList++Ea.lgt 9++Ea.addn a.data.toList++Ea.lgt 7) (by
          simp only[Znt,Znw,hLl,hYl,h9l,h7l,hGl,Ea.mS_app,Ea.addn,Znu];rfl) (by
          have e3:(Ea.addn a.data.toList).length<=47:=Qfx;simp only[ZmM,Ea.lgt_len];rw[<-Ea.mS_len (Ea.sym k s.data.toList),<-hYl,Zb];omega))
         have hLs:L.size<=11:=QhN;obtain⟨T,hT⟩:∃T,Ea.bS (Ea.sS (Ea.setsAdd a.data.toList))=T:=⟨_,rfl⟩;rw[hT]at HAS HDR;have zy:a.toList.isEmpty=false:=QeJ;have z0:((a.size:Int) !=0)=true:=ZnA.2 QhN;have z25:((a.size:Int) !=2&&(a.size:Int) !=5)=false:=(by rcases a25 with h|h<;>rw[h]<;>rfl);generalize Ea.enc k s.data.toList a.data.toList=res at*;generalize Ea.size k=n at*;generalize Ea.lq k=lq at*;generalize Ea.rq k=rq at*;have ha5:a.size<=5:=QhN;clear a1 a1' a2 a3 hf0 hY hYl hL hLl h9 h9l h7 h7l hG hGl e1 e2 hAL hw47 hT;rcases a25 with a25|a25;(·have z2:((a.size:Int) !=2)=false:=QiU;exact Qgu);·have z2:((a.size:Int) !=2)=true:=QiU;have z5:((a.size:Int) !=5)=false:=QiU;exact Qgu
     ·rw[ZmF h5]at HF;rw[ZmS h5]at HRI;rw[HF.out,ZmH QhP]at HX;generalize Ea.enc k s.data.toList a.data.toList=res at*;generalize Ea.size k=n at*;clear h1 h2 h2' h3 h5 hkk hn1 HF h4;go_enter func64,ntmps64;go_wp2_with fail;refine(HZ.out _).mono ?_;rintro e w1 ⟨rfl,rfl⟩;go_wp2_with fail;refine(HD.out _).mono ?_;exact Qg2
end
end Go.Proofs.YtbngggoccndefaaGreatDoor
section
namespace Go.Proofs.YtbngggoccndefaaGreatDoor
open Go.Proofs.Tryz
open Go.RowKit
theorem Zav (x:Nat) (hx:x<128):(Utf8.encode (x:Int)).data.toList=[UInt8.ofNat x]:=by
 have hv:Utf8.valid (x:Int)=true:=by unfold Utf8.valid;exact Qcm
 unfold Utf8.encode;simp[hv,hx]
def scan (al:List Nat) (m:List Bool):Option (Nat×Nat):=al.foldl (fun acc t=>match Ea.lookT t m with
 |some d=>some (d,t)
 |none=>acc) none
theorem ZdV (al:List Nat) (t:Nat) (m:List Bool):scan (al++[t]) m=match Ea.lookT t m with
 |some d=>some (d,t)
 |none=>scan al m:=by unfold scan;rw[List.foldl_append];rfl
theorem ZhY (m:List Bool):scan [0,1] m=Ea.look true 0 m:=by unfold scan Ea.look;simp only[ZmX,Zni,ZoG];cases Ea.lookT 1 m<;>cases Ea.lookT 0 m<;>rfl
theorem Zj9 (t:Nat) (m:List Bool):scan [t] m=Ea.look false t m:=by unfold scan Ea.look;simp only[ZmX,Zni,ZoR,Zpr];cases Ea.lookT t m<;>rfl
def alOf (both:Bool) (t:Nat):List Nat:=if both=true then [0,1]else [t]
theorem ZkU (both:Bool) (t:Nat) (ht:both=true->t=0) (m:List Bool):scan (alOf both t) m=Ea.look both t m:=by
 cases both with
 |true=>rw[ht rfl];exact ZhY m
 |false=>exact Zj9 t m
def scD (o:Option (Nat×Nat)):Int:=match o with
 |some (d,_)=>(d:Int)
 |none=> -1
def scT (o:Option (Nat×Nat)):Int:=match o with
 |some (_,t)=>65+(t:Int)
 |none=>0
theorem ZkV {al:List Nat} (ha:∀t∈al,t<3) {m:List Bool} {d t:Nat} (h:scan al m=some (d,t)):d<10∧t<3:=by
 have key:∀(al:List Nat) (acc:Option (Nat×Nat)),(∀t∈al,t<3)->(∀d t,acc=some (d,t)->d<10∧t<3)->∀d t,al.foldl (fun acc t=>match Ea.lookT t m with
  |some d=>some (d,t)
  |none=>acc) acc=some (d,t)->d<10∧t<3:=by
  intro al
  induction al with
  |nil=>intro acc _ h d t e;exact h d t e
  |cons u al ih=>
   intro acc h1 h2 d t e
   refine ih _ (fun t ht=>h1 t (Zne _ ht)) ?_ d t e
   intro d t e
   dsimp only at e
   cases hl:Ea.lookT u m with
   |none=>simp only[hl]at e;exact h2 d t e
   |some d0=>simp only[hl]at e;cases e;exact⟨(Ea.lookT_some (h1 u (Znh ..)) hl).1,h1 u (Znh ..)⟩
 exact key al none ha (fun d t h=>by cases h) d t h
def recV (o:Option (List UInt8×List Nat)):Value:=match o with
 |some (l,u)=>.tuple #[.string (Ea.bS l),.string (Ea.bS (Ea.sS u)),.bool true]
 |none=>.tuple #[.string ⟨#[]⟩,.string ⟨#[]⟩,.bool false]
theorem ZF (both:Bool) (t n:Nat) (sl:List Bool) (s al:ByteArray) (hs:s.data.toList=Ea.mS sl) (hn:sl.length=7*n) (hn12:n<=12) (ht:t<3) (hb:both=true->t=0) (hal:al.data.toList=Ea.sS (alOf both t)) (w:World):
 Calls prog 254 #[.string s,.string al] w fun e w'=>e=.returned (recV (Ea.rcg both t 0 n sl))∧Ext w w':=by
 obtain⟨R,hR⟩:∃R,Ea.rcg both t 0 n sl=R:=⟨_,rfl⟩
 rw[hR]
 have HR0:Hid (R=Ea.sofar (Ea.rcg both t 0 n sl) [] []):=ZmE (by rw[Ea.sofar_nil,hR])
 have HSC:=ZmE (ZkU both t hb)
 have HAL:=ZmE hal
 have hA3:∀u∈alOf both t,u<3:=by unfold alOf;split;(·simp);·simpa using ht
 have HA3:=ZmE hA3
 have hAsz:al.size=(alOf both t).length:=by rw[Zc hal,Ea.sS_len]
 have hAl2:al.size<=2:=by rw[hAsz];unfold alOf;split<;>simp
 have HASZ:=ZmE hAsz
 clear hal hA3 hAsz
 generalize alOf both t=A at*
 go_enter func254,ntmps254
 go_wp2_with fail
 go_loopw [0,4,5] (fun v0 v4 v5 wr=>∃(k:Nat) (S D T:ByteArray) (ds:List UInt8) (us:List Nat),k<=n∧v0=.string S∧v4=.string D∧v5=.string T∧Hid (S.data.toList=Ea.mS (sl.drop (7*k)))∧Hid (D.data.toList=ds)∧Hid (T.data.toList=Ea.sS us)∧D.size=k∧T.size=k∧Hid (R=Ea.sofar (Ea.rcg both t 0 (n-k) (sl.drop (7*k))) ds us)∧Ext w wr) (fun v0 _ _ _=>match v0 with| .string S=>S.size|_=>0)
 case atStart=>exact⟨0,s,⟨#[]⟩,⟨#[]⟩,[],[],ZmP _,rfl,rfl,rfl,ZmE (by rw[ZqA,Zoh];exact hs),ZmE rfl,ZmE rfl,rfl,rfl,ZmE (by rw[ZqA,Zoh,ZoH];exact HR0.out),Ext.refl w⟩
 case round=>
  obtain⟨k,S,D,T,ds,us,hk,rfl,rfl,rfl,HS,HD,HT,hDs,hTs,HSO,hxr⟩:=hrel;have hSs:S.size=7*(n-k):=(by rw[Zc HS.out,Ea.mS_len,Znr,hn];omega);by_cases hlt:k<n
  ·have hS7:7<=S.size:=QhN;have hSl:S.size<=84:=QhN;have hne:S.toList.isEmpty=false:=(by rw[Znk,Zpk];intro h;rw[<-Zb,h]at hS7;simp at hS7);obtain⟨m,hm⟩:∃m,(sl.drop (7*k)).take 7=m:=⟨_,rfl⟩;have HP7:Hid (S.extract 0 7=Ea.bS (Ea.mS m)):=ZmE (by apply Zh;rw[Zr,HS.out,Ea.mS_take,hm];rfl);clear hSs;go_wp2_with fail;go_loopw [18,7,8] (fun v18 v7 v8 wq=>∃j:Nat,j<=al.size∧v18=.int .i64 (j:Int)∧v7=.int .i64 (scD (scan (A.take j) m))∧v8=.int .u8 (scT (scan (A.take j) m))∧Ext w wq) (fun v18 _ _ _=>al.size-(intOf v18).toNat);(case atStart=>exact⟨0,ZmP _,rfl,rfl,rfl,Xf⟩);case round=>
    clear hxr;obtain⟨j,hj,rfl,rfl,rfl,hxr⟩:=hrel;by_cases hja:j<al.size
    ·obtain⟨u,hu⟩:∃u,A[j]? =some u:=⟨_,ZmG (by rw[<-HASZ.out];exact hja)⟩
     have hu3:=HA3.out u (ZmT hu)
     have hau:al[j].toNat=65+u:=by have h1:al.data.toList[j]? =some al[j]:=ZmG (by rw[Zb];exact hja);rw[HAL.out]at h1;unfold Ea.sS at h1;rw[Znm,hu]at h1;have h2:Ea.cS u=al[j]:=Qim;rw[<-h2];unfold Ea.cS;exact Qcm
     have HTK:Hid (A.take (j+1)=A.take j++[u]):=ZmE (by obtain⟨h1,h2⟩:=ZmN.1 hu;rw[ZnL h1,h2])
     have HDR:Hid (∀w,Calls prog 181 #[.int .u8 (65+(u:Int))] w fun e w'=>e=.returned (arrV (Ea.rowB u))∧Ext w w'):=ZmE (fun w=>ZbS u hu3 w)
     have hRl:=Zgk hu3
     have HRI:=ZmE (Ea.row_idx u m)
     have HLT:Hid (∀d,Ea.lookT u m=some d->d<10):=ZmE (fun d h=>(Ea.lookT_some hu3 h).1)
     unfold arrV at HDR
     obtain⟨Q,hQ⟩:∃Q,((Ea.rowB u).map Value.string).toArray=Q:=⟨_,rfl⟩
     have hQs:Q.size=10:=by rw[<-hQ];simp[hRl]
     have HQ1:Hid (Q.all (·.oneCell')=true):=ZmE Qjf
     have HQd:Hid (∀i,i<10->Q[i]? =some (.string ((Ea.rowB u).getD i ByteArray.empty))):=ZmE (fun i hi=>by rw[<-hQ];simp only[Zph,Znm];rw[ZmG QiB,ZmL,ZmG QiB];rfl)
     have HRL:=ZmE hRl
     rw[hQ]at HDR
     clear hu hQ hRl
     go_wp2_with fail
     refine(HDR.out _).mono ?_
     rintro e w4 ⟨rfl,hx4⟩
     have hst:=ZG Q hQs HQ1.out w4
     have HNC:=ZmE (fun i hi=>ZC Q 210 w4 (HQd.out i hi))
     go_wp2_with fail
     obtain⟨w5,hw5⟩:∃w5,w4.alloc (.cells Q 210)=w5:=⟨_,rfl⟩
     have hsz:w4.heap.size<w5.heap.size:=by rw[<-hw5];simp
     have hx5:Ext w w5:=by rw[<-hw5];exact(hxr.trans hx4).alloc _
     rw[hw5]at HNC⊢
     have HIX:=ZmE (fun(x:Ahead w5)=>Tryz.slices_Index_string w4.heap.size 0 10 10 (Ea.rowB u) (S.extract 0 7) x.at' Qih QhN (fun i hi=>by rw[Zoa,x.ext.cell (p:=⟨w4.heap.size,i,none⟩) hsz];exact HNC.out i QjE))
     rw[HP7.out,show(Ea.rowB u).take 10=Ea.rowB u from ZmW Qih,HRI.out,<-HP7.out]at HIX
     clear hst hw5 HNC HRI
     cases hlk:Ea.lookT u m with
     |none=>rw[hlk]at HIX;simp only[Ea.plcO]at HIX;have HSN:Hid (scan (A.take (j+1)) m=scan (A.take j) m):=ZmE (by rw[HTK.out,ZdV,hlk]);clear hlk HLT hau HTK;refine Zon (C:=fun w'=>∃x:Ahead w5,w'=x.at') QhO QhO (Ahead.drawn _) ?_;(try dsimp only);(repeat(first|go_big_quiet_step ((go_at_call 252;with_reducible exact Zn ((HIX.out _).mono fun _ _ h=>⟨h.1,h.2▸Ext.refl _⟩)))|quiet_step ((go_at_call 252;with_reducible exact Zn ((HIX.out _).mono fun _ _ h=>⟨h.1,h.2▸Ext.refl _⟩)))));refine ZoB ?_;intro _ hx0;obtain⟨x0,hx0⟩:=hx0;subst hx0;obtain⟨w8,hx8⟩:=x0;(try dsimp only);go_wp2;go_roundw;(case rel=>exact⟨j+1,by omega,by go_num,by rw[HSN.out],by rw[HSN.out],hx5.trans hx8⟩);case measure=>exact Q8
     |some d=>have hd10:=HLT.out d hlk;rw[hlk]at HIX;simp only[Ea.plcO]at HIX;have HSN:Hid (scan (A.take (j+1)) m=some (d,u)):=ZmE (by rw[HTK.out,ZdV,hlk]);clear hlk HLT HTK;refine Zon (C:=fun w'=>∃x:Ahead w5,w'=x.at') QhO QhO (Ahead.drawn _) ?_;(try dsimp only);(repeat(first|go_big_quiet_step ((go_at_call 252;with_reducible exact Zn ((HIX.out _).mono fun _ _ h=>⟨h.1,h.2▸Ext.refl _⟩)))|quiet_step ((go_at_call 252;with_reducible exact Zn ((HIX.out _).mono fun _ _ h=>⟨h.1,h.2▸Ext.refl _⟩)))));refine ZoB ?_;intro _ hx0;obtain⟨x0,hx0⟩:=hx0;subst hx0;obtain⟨w8,hx8⟩:=x0;(try dsimp only);go_wp2;go_quiet (fail);go_wp2;go_roundw;(case rel=>exact⟨j+1,by omega,by go_num,by rw[HSN.out];rfl,by rw[HSN.out];rfl,(hx5.trans hx8).drewN _⟩);case measure=>exact Q8
    ·obtain rfl:j=al.size:=by omega
     rw[show A.take al.size=A by rw[HASZ.out,ZnN]]at*
     rw[HSC.out]at*
     have HRC:=ZmE (fun d u (h:Ea.look both t m=some (d,u))=>ZkV HA3.out (by rw[HSC.out];exact h))
     obtain⟨q,hq⟩:∃q,n-k=q+1:=⟨n-k-1,by omega⟩
     rw[hq]at HSO
     clear hj hja
     cases hlk:Ea.look both t m with
     |none=>have HRN:Hid (R=none):=ZmE (by rw[HSO.out,Ea.rcg_none (by rw[hm];exact hlk)];rfl);simp only[scD,scT];clear hlk hm hq;go_wp2;go_ret3;exact⟨by rw[HRN.out];rfl,hxr⟩
     |some p=>obtain⟨d,u⟩:=p;obtain⟨hd10,hu3⟩:=HRC.out d u hlk;simp only[scD,scT];have HSO2:Hid (R=Ea.sofar (Ea.rcg both t 0 (n-(k+1)) (sl.drop (7*(k+1)))) (ds++[Ea.chr d]) (us++[u])):=ZmE (by rw[HSO.out,Ea.rcg_some (by rw[hm];exact hlk),show n-(k+1)=q by omega,Zoi,show 7*k+(7+0)=7*(k+1) by omega]);have hc1:(Utf8.encode (48+(d:Int))).data.toList=[Ea.chr d]:=Qe1;have hc2:(Utf8.encode (65+(u:Int))).data.toList=[Ea.cS u]:=(by rw[show(65+(u:Int))=((65+u:Nat):Int) by omega];exact Zav (65+u) QhN);have hz1:(Utf8.encode (48+(d:Int))).size=1:=Zc hc1;have hz2:(Utf8.encode (65+(u:Int))).size=1:=Zc hc2;obtain⟨CD,hCD⟩:∃CD,Utf8.encode (48+(d:Int))=CD:=⟨_,rfl⟩;obtain⟨CT,hCT⟩:∃CT,Utf8.encode (65+(u:Int))=CT:=⟨_,rfl⟩;rw[hCD]at hc1 hz1;rw[hCT]at hc2 hz2;(have hr1:∀w,(convert 21 9 (.int .i32 (48+(d:Int)))).run prog w=.ok (.string CD) w:=fun w=>by rw[<-hCD];exact Zpe w _ _ _ _ QhO underlying9);(have hr2:∀w,(convert 21 9 (.int .i32 (65+(u:Int)))).run prog w=.ok (.string CT) w:=fun w=>by rw[<-hCT];exact Zpe w _ _ _ _ QhO underlying9);have HD2:Hid ((D++CD:ByteArray).data.toList=ds++[Ea.chr d]):=ZmE (by rw[Znt,Znw,HD.out,hc1]);have HT2:Hid ((T++CT:ByteArray).data.toList=Ea.sS (us++[u])):=ZmE (by rw[Znt,Znw,HT.out,Ea.sS_app,hc2];rfl);have HS2:Hid ((S.extract 7 S.size).data.toList=Ea.mS (sl.drop (7*(k+1)))):=ZmE (by rw[Z2,HS.out,Ea.mS_drop,Zoi,show 7*k+7=7*(k+1) by omega]);have hDle:D.size<=12:=QhN;have hTle:T.size<=12:=QhN;have HDZ:Hid (D.size=k∧T.size=k):=ZmE ⟨hDs,hTs⟩;clear hlk hm hq hc1 hc2 hDs hTs hCD hCT;go_wp2;go_roundw;(case rel=>exact⟨k+1,_,_,_,_,_,by omega,rfl,rfl,rfl,HS2,HD2,HT2,by rw[Zo8,hz1,HDZ.out.1],by rw[Zo8,hz2,HDZ.out.2],HSO2,hxr⟩);case measure=>exact Qcm
  ·obtain rfl:k=n:=QhN;have HRE:Hid (R=some (ds,us)):=ZmE (by rw[HSO.out,ZnM];exact Ea.sofar_end ds us);have hS0:S.toList=[]:=(by rw[Znk];exact Znq (by rw[Zb,hSs,ZnM]));have hS1:S.toList.isEmpty=true:=(by rw[hS0];rfl);have HE:Hid (Value.string D=.string (Ea.bS ds)∧Value.string T=.string (Ea.bS (Ea.sS us))):=ZmE (by rw[<-HD.out,<-HT.out,Ea.bS_of,Ea.bS_of];exact⟨rfl,rfl⟩);clear hlt hk hSs;go_wp2;go_ret3;exact⟨by rw[HRE.out];simp only[recV];rw[<-HE.out.1,<-HE.out.2];rfl,hxr⟩
end Go.Proofs.YtbngggoccndefaaGreatDoor
namespace Go.Proofs.YtbngggoccndefaaGreatDoor
open Go.Proofs.Tryz
open Go.RowKit
theorem ZaX (both:Bool) (t:Nat):∀(n:Nat) (s:List Bool),Ea.rcg both t 0 n (s.take (7*n))=Ea.rcg both t 0 n s:=by
 intro n
 induction n with
 |zero=>intro s;rfl
 |succ n ih=>intro s;have e:7*(n+1)=7+7*n:=QhN;rw[Ea.rcg,Ea.rcg,Zp8,show min 7 (7*(n+1))=7 by omega];have e2:(s.take (7*(n+1))).drop (7+0)=(s.drop (7+0)).take (7*n):=(by rw[ZpN];congr 1);rw[e2,ih]
theorem Zcu {both:Bool} {t gap:Nat}:∀ {n:Nat} {s:List Bool} {l:List UInt8} {u:List Nat},Ea.rcg both t gap n s=some (l,u)->l.length=n:=by
 intro n
 induction n with
 |zero=>intro s l u h;cases h;rfl
 |succ n ih=>
  intro s l u h
  rw[Ea.rcg]at h
  cases h1:Ea.look both t (s.take 7)with
  |none=>rw[h1]at h;cases h
  |some p=>
   rw[h1]at h
   dsimp only at h
   cases h2:Ea.rcg both t gap n (s.drop (7+gap))with
   |none=>rw[h2]at h;cases h
   |some q=>rw[h2]at h;cases h;simp[ih h2]
theorem hasP (s p:ByteArray) (pl sl:List Bool) (hs:s.data.toList=Ea.mS sl) (hp:p.data.toList=Ea.mS pl) (w:World):Calls prog 177 #[.string s,.string p] w fun e w'=>e=.returned (.bool (decide (sl.take pl.length=pl)))∧w=w':=by refine(Tryz.strings_HasPrefix s p w).mono ?_;rintro e w' ⟨rfl,rfl⟩;exact⟨by rw[hs,hp,Ea.mS_prefix],rfl⟩
theorem hasS (s p:ByteArray) (pl sl:List Bool) (hs:s.data.toList=Ea.mS sl) (hp:p.data.toList=Ea.mS pl) (hl:pl.length<=sl.length) (hz:s.size<=9223372036854775807) (w:World):Calls prog 253 #[.string s,.string p] w fun e w'=>e=.returned (.bool (decide (sl.drop (sl.length-pl.length)=pl)))∧w=w':=by refine(Tryz.strings_HasSuffix s p w hz).mono ?_;rintro e w' ⟨rfl,rfl⟩;exact⟨by rw[hs,hp,Ea.mS_suffix _ _ hl],rfl⟩
def halv (both:Bool) (t n:Nat) (sl:List Bool):(List UInt8×List Nat)×Int:=
 if sl.take 3≠Ea.gd then(([],[]),19)
 else if sl.drop (sl.length-3)≠Ea.gd then(([],[]),20)
 else match Ea.rcg both t 0 n (sl.drop 3),Ea.rcg false 2 0 n (sl.drop (7*n+8))with
  |some (l,u),some (r,_)=>if(sl.drop (7*n+3)).take 5=Ea.md then((l++r,u),0)else(([],[]),18)
  |_,_=>(([],[]),18)
def halV (r:(List UInt8×List Nat)×Int):Value:=.tuple #[.string (Ea.bS r.1.1),.string (Ea.bS (Ea.sS r.1.2)),.int .i64 r.2]
theorem Zfy (s:ByteArray) (sl:List Bool) (hs:s.data.toList=Ea.mS sl) (hW:sl.length=95) (w:World):
 Calls prog 251 #[.string s,.int .i64 6,.string ⟨#[65,66]⟩] w fun e w'=>e=.returned (halV (halv true 0 6 sl))∧Ext w w':=by
 have hsz:s.size=95:=QfX
 have HX:=ZmE (halv.eq_1 true 0 6 sl)
 rw[hW]at HX
 have HP:=ZmE (fun w=>hasP s ⟨#[49,48,49]⟩ Ea.gd sl hs rfl w)
 have HQ:=ZmE (fun w=>hasS s ⟨#[49,48,49]⟩ Ea.gd sl hs rfl (by rw[hW];decide) QhN w)
 rw[show Ea.gd.length=3 from rfl]at HP HQ
 rw[hW]at HQ
 obtain⟨J,hJ⟩:∃J,s.extract 3 92=J:=⟨_,rfl⟩
 have hJl:J.data.toList=Ea.mS ((sl.drop 3).take 89):=Qfb
 have hJs:J.size=89:=Qfl
 have HJ:=ZmE hJ
 have c1:(J.extract 0 42).data.toList=Ea.mS ((sl.drop 3).take 42):=by rw[Zr,hJl,Ea.mS_take,Zp8];rfl
 have c2:(J.extract 47 89).data.toList=Ea.mS ((sl.drop 50).take 42):=Qcn
 have c3:(J.extract 42 47).data.toList=Ea.mS ((sl.drop 45).take 5):=Qcn
 have HL:=ZmE (ZF true 0 6 ((sl.drop 3).take 42) (J.extract 0 42) ⟨#[65,66]⟩ c1 Qh7 QhN QhN (fun _=>rfl) rfl)
 have HR:=ZmE (ZF false 2 6 ((sl.drop 50).take 42) (J.extract 47 89) ⟨#[67]⟩ c2 Qh7 QhN QhN (fun h=>by cases h) rfl)
 rw[ZaX true 0 6 (sl.drop 3)]at HL
 rw[ZaX false 2 6 (sl.drop 50)]at HR
 have HM:Hid (((J.extract 42 47).toList== [48,49,48,49,48])=decide ((sl.drop 45).take 5=Ea.md)):=ZmE Qir
 clear hs hW c1 c2 c3 hJl
 by_cases g1:sl.take 3=Ea.gd
 ·rw[ZmF (fun h=>h g1)]at HX;rw[ZmR g1]at HP;clear g1;by_cases g2:sl.drop 92=Ea.gd
  ·rw[ZmF (fun h=>h g2)]at HX
   rw[ZmR g2]at HQ
   clear g2
   cases h1:Ea.rcg true 0 0 6 (sl.drop 3)with
   |none=>
    rw[h1]at HX HL
    have HN:Hid (halv true 0 6 sl=(([],[]),18)):=ZmE (by rw[HX.out])
    clear HX
    generalize halv true 0 6 sl=res at*
    cases h2:Ea.rcg false 2 0 6 (sl.drop 50)with
    |none=>rw[h2]at HR;exact QU
    |some q=>obtain⟨r,v⟩:=q;rw[h2]at HR;exact QU
   |some p=>
    obtain⟨l,u⟩:=p
    cases h2:Ea.rcg false 2 0 6 (sl.drop 50)with
    |none=>rw[h1]at HX HL;rw[h2]at HX HR;have HN:Hid (halv true 0 6 sl=(([],[]),18)):=ZmE (by rw[HX.out]);clear HX;generalize halv true 0 6 sl=res at*;exact QU
    |some q=>obtain⟨r,v⟩:=q;have hl:=Zcu h1;have hr:=Zcu h2;rw[h1]at HX HL;rw[h2]at HX HR;have bl:(Ea.bS l).size=6:=(by rw[Zc (Ea.bS_list l),hl]);have br:(Ea.bS r).size=6:=(by rw[Zc (Ea.bS_list r),hr]);have HAP:Hid (Ea.bS l++Ea.bS r=Ea.bS (l++r)):=ZmE (Zh Qiy);simp only[recV]at HL HR;cases hm:((J.extract 42 47).toList== [48,49,48,49,48]);(·have hmm:=HM.out;rw[hm]at hmm;have HN:Hid (halv true 0 6 sl=(([],[]),18)):=ZmE Qjw;clear HX hmm;generalize halv true 0 6 sl=res at*;subst hJ;clear h1 h2 HM hl hr;exact Qs);·have hmm:=HM.out;rw[hm]at hmm;have HN:Hid (halv true 0 6 sl=((l++r,u),0)):=ZmE QjC;clear HX hmm;generalize halv true 0 6 sl=res at*;exact Qbu
  ·rw[ZmH g2]at HX;rw[ZmS g2]at HQ;generalize halv true 0 6 sl=res at*;exact Qgr
 ·rw[ZmH g1]at HX;rw[ZmS g1]at HP;generalize halv true 0 6 sl=res at*;exact QgG
theorem ZeD (s:ByteArray) (sl:List Bool) (hs:s.data.toList=Ea.mS sl) (hW:sl.length=67) (w:World):
 Calls prog 251 #[.string s,.int .i64 4,.string ⟨#[65]⟩] w fun e w'=>e=.returned (halV (halv false 0 4 sl))∧Ext w w':=by
 have hsz:s.size=67:=QfX
 have HX:=ZmE (halv.eq_1 false 0 4 sl)
 rw[hW]at HX
 have HP:=ZmE (fun w=>hasP s ⟨#[49,48,49]⟩ Ea.gd sl hs rfl w)
 have HQ:=ZmE (fun w=>hasS s ⟨#[49,48,49]⟩ Ea.gd sl hs rfl (by rw[hW];decide) QhN w)
 rw[show Ea.gd.length=3 from rfl]at HP HQ
 rw[hW]at HQ
 obtain⟨J,hJ⟩:∃J,s.extract 3 64=J:=⟨_,rfl⟩
 have hJl:J.data.toList=Ea.mS ((sl.drop 3).take 61):=Qfb
 have hJs:J.size=61:=Qfl
 have HJ:=ZmE hJ
 have c1:(J.extract 0 28).data.toList=Ea.mS ((sl.drop 3).take 28):=by rw[Zr,hJl,Ea.mS_take,Zp8];rfl
 have c2:(J.extract 33 61).data.toList=Ea.mS ((sl.drop 36).take 28):=Qcn
 have c3:(J.extract 28 33).data.toList=Ea.mS ((sl.drop 31).take 5):=Qcn
 have HL:=ZmE (ZF false 0 4 ((sl.drop 3).take 28) (J.extract 0 28) ⟨#[65]⟩ c1 Qh7 QhN QhN (fun _=>rfl) rfl)
 have HR:=ZmE (ZF false 2 4 ((sl.drop 36).take 28) (J.extract 33 61) ⟨#[67]⟩ c2 Qh7 QhN QhN (fun h=>by cases h) rfl)
 rw[ZaX false 0 4 (sl.drop 3)]at HL
 rw[ZaX false 2 4 (sl.drop 36)]at HR
 have HM:Hid (((J.extract 28 33).toList== [48,49,48,49,48])=decide ((sl.drop 31).take 5=Ea.md)):=ZmE Qir
 clear hs hW c1 c2 c3 hJl
 by_cases g1:sl.take 3=Ea.gd
 ·rw[ZmF (fun h=>h g1)]at HX;rw[ZmR g1]at HP;clear g1;by_cases g2:sl.drop 64=Ea.gd
  ·rw[ZmF (fun h=>h g2)]at HX
   rw[ZmR g2]at HQ
   clear g2
   cases h1:Ea.rcg false 0 0 4 (sl.drop 3)with
   |none=>
    rw[h1]at HX HL
    have HN:Hid (halv false 0 4 sl=(([],[]),18)):=ZmE (by rw[HX.out])
    clear HX
    generalize halv false 0 4 sl=res at*
    cases h2:Ea.rcg false 2 0 4 (sl.drop 36)with
    |none=>rw[h2]at HR;exact QT
    |some q=>obtain⟨r,v⟩:=q;rw[h2]at HR;exact QT
   |some p=>
    obtain⟨l,u⟩:=p
    cases h2:Ea.rcg false 2 0 4 (sl.drop 36)with
    |none=>rw[h1]at HX HL;rw[h2]at HX HR;have HN:Hid (halv false 0 4 sl=(([],[]),18)):=ZmE (by rw[HX.out]);clear HX;generalize halv false 0 4 sl=res at*;exact QT
    |some q=>obtain⟨r,v⟩:=q;have hl:=Zcu h1;have hr:=Zcu h2;rw[h1]at HX HL;rw[h2]at HX HR;have bl:(Ea.bS l).size=4:=(by rw[Zc (Ea.bS_list l),hl]);have br:(Ea.bS r).size=4:=(by rw[Zc (Ea.bS_list r),hr]);have HAP:Hid (Ea.bS l++Ea.bS r=Ea.bS (l++r)):=ZmE (Zh Qiy);simp only[recV]at HL HR;cases hm:((J.extract 28 33).toList== [48,49,48,49,48]);(·have hmm:=HM.out;rw[hm]at hmm;have HN:Hid (halv false 0 4 sl=(([],[]),18)):=ZmE Qjw;clear HX hmm;generalize halv false 0 4 sl=res at*;subst hJ;clear h1 h2 HM hl hr;exact Qs);·have hmm:=HM.out;rw[hm]at hmm;have HN:Hid (halv false 0 4 sl=((l++r,u),0)):=ZmE QjC;clear HX hmm;generalize halv false 0 4 sl=res at*;exact Qbu
  ·rw[ZmH g2]at HX;rw[ZmS g2]at HQ;generalize halv false 0 4 sl=res at*;exact Qgr
 ·rw[ZmH g1]at HX;rw[ZmS g1]at HP;generalize halv false 0 4 sl=res at*;exact QgG
end Go.Proofs.YtbngggoccndefaaGreatDoor
namespace Go.Proofs.YtbngggoccndefaaGreatDoor
open Go.Proofs.Tryz
open Go.RowKit
def linV (k:Int) (t a:List UInt8):Value:=.agg #[.int .i64 k,.string (Ea.bS t),.string (Ea.bS a)]
def symV (r:(Int×List UInt8)×Int):Value:=.tuple #[linV r.1.1 r.1.2 [],.int .i64 r.2]
theorem Zcr {both:Bool} {n:Nat} {sl:List Bool} {l:List UInt8} {u:List Nat} (h:halv both 0 n sl=((l,u),0)) (hl:14*n+8<=sl.length):Ea.digs l=true∧l.length=2*n∧(∀x∈u,x<3)∧u.length=n:=by
 unfold halv at h
 split at h
 ·cases h
 split at h
 ·cases h
 cases h1:Ea.rcg both 0 0 n (sl.drop 3)with
 |none=>rw[h1]at h;cases h
 |some p=>
  obtain⟨l1,u1⟩:=p
  cases h2:Ea.rcg false 2 0 n (sl.drop (7*n+8))with
  |none=>rw[h1,h2]at h;cases h
  |some q=>obtain⟨l2,u2⟩:=q;rw[h1,h2]at h;dsimp only at h;split at h;(·cases h;obtain⟨_,a2,a3,a4,a5⟩:=Ea.rcg_inv both 0 QhN n _ _ _ h1 Qh0;obtain⟨_,b2,b3,b4,b5⟩:=Ea.rcg_inv false 2 QhN n _ _ _ h2 Qh0;exact⟨by rw[Ea.digs_app];exact⟨a4,b4⟩,by rw[ZmM,a2,b2];omega,fun x hx=>Ea.may_lt QhN (a5 x hx),a3⟩);·cases h
theorem ZbX {k:Int} {l:List UInt8} (h1:Ea.size k≠0) (h2:Ea.digs l=true) (h3:l.length=Ea.size k) (h4:k=4->l.getD 0 0<=49):Ea.full k l=if Ea.good (if k=4 then Ea.exp8 l else l)then 0 else 8:=by rw[ZcW,ZmF h1,ZmF (by rw[h2];simp),ZmF (fun h=>h h3),ZmF (fun h=>h.2 (h4 h.1))]
def longP (h:(List UInt8×List Nat)×Int):(Int×List UInt8)×Int:=
 if h.2≠0 then((0,[]),h.2)else match Ea.find13 h.1.2 with
  |none=>((0,[]),18)
  |some d=>if Ea.good (Ea.chr d::h.1.1)then(if d=0 then((3,h.1.1),0)else((1,Ea.chr d::h.1.1),0))else((0,[]),8)
theorem ZbP {d:Nat} (hd:d<10):Ea.chr d=48↔d=0:=by
 have:∀d:Fin 10,Ea.chr d=48↔d.1=0:=by decide
 exact this ⟨d,hd⟩
theorem Zbx {d:Nat} (hd:d<10):48<=(Ea.chr d).toNat∧(Ea.chr d).toNat<=57:=by unfold Ea.chr;rw[Ea.chr_nat hd];omega
theorem Zao {both:Bool} {t n:Nat} {sl:List Bool} (g1:sl.take 3=Ea.gd) (g2:sl.drop (sl.length-3)=Ea.gd) (h:Ea.rcg both t 0 n (sl.drop 3)=none∨Ea.rcg false 2 0 n (sl.drop (7*n+8))=none∨(sl.drop (7*n+3)).take 5≠Ea.md):halv both t n sl=(([],[]),18):=by
 unfold halv
 rw[ZmF (fun h=>h g1),ZmF (fun h=>h g2)]
 cases h1:Ea.rcg both t 0 n (sl.drop 3)with
 |none=>rfl
 |some p=>
  cases h2:Ea.rcg false 2 0 n (sl.drop (7*n+8))with
  |none=>rfl
  |some q=>rw[h1,h2]at h;exact ZmF (h.resolve_left QhQ |>.resolve_left QhQ)
theorem ZdM {both:Bool} {t n:Nat} {sl:List Bool} {l r:List UInt8} {u v:List Nat} (g1:sl.take 3=Ea.gd) (g2:sl.drop (sl.length-3)=Ea.gd) (h1:Ea.rcg both t 0 n (sl.drop 3)=some (l,u)) (h2:Ea.rcg false 2 0 n (sl.drop (7*n+8))=some (r,v)) (hm:(sl.drop (7*n+3)).take 5=Ea.md):halv both t n sl=((l++r,u),0):=by unfold halv;rw[ZmF (fun h=>h g1),ZmF (fun h=>h g2),h1,h2];exact ZmH hm
theorem Zk4 (sl:List Bool) (hW:sl.length=95):Ea.rdSym 95 sl=longP (halv true 0 6 sl):=by
 unfold Ea.rdSym;rw[show 95-(Ea.stp 95).length=sl.length-3 by rw[hW];rfl,show Ea.stp 95=Ea.gd from rfl];by_cases g1:sl.take 3=Ea.gd
 ·by_cases g2:sl.drop (sl.length-3)=Ea.gd
  ·rw[ZmF (fun h=>h g1),ZmF (fun h=>h g2)]
   rw[show Ea.rdK 95 sl=Ea.rd13 sl from rfl]
   unfold Ea.rd13
   cases h1:Ea.rcg true 0 0 6 (sl.drop 3)with
   |none=>rw[Zao g1 g2 (.inl h1)];rfl
   |some p=>
    obtain⟨l,u⟩:=p
    cases h2:Ea.rcg false 2 0 6 (sl.drop 50)with
    |none=>rw[Zao g1 g2 (.inr (.inl h2))];rfl
    |some q=>
     obtain⟨r,v⟩:=q;dsimp only;by_cases hm:(sl.drop 45).take 5=Ea.md
     ·have hh:=ZdM g1 g2 h1 h2 hm
      obtain⟨k1,k2,k3,k4⟩:=Zcr hh QhN
      rw[ZmH hm,hh]
      unfold longP
      rw[ZmF QhQ]
      dsimp only
      cases hf:Ea.find13 u with
      |none=>rfl
      |some d=>obtain⟨f1,_⟩:=Ea.find13_some hf;rw[ZoV];dsimp only;have hfull:=ZbX (k:=1) (l:=Ea.chr d::(l++r)) QhP (Ea.digs_cons (Zbx f1) k1) (by rw[ZmQ,k2];rfl) (fun e=>by cases e);rw[ZmF (show¬(1:Int)=4 by decide)]at hfull;rw[show Ea.kindOf 95=1 from rfl,hfull];by_cases hg:Ea.good (Ea.chr d::(l++r));(·rw[ZmH hg,ZmH hg,ZmF QhQ];by_cases h0:d=0;(·rw[ZmH h0,ZmH ⟨rfl,by rw[Zpv];exact(ZbP f1).2 h0⟩];rfl);·rw[ZmF h0,ZmF (fun h=>h0 ((ZbP f1).1 (by rw[Zpv]at h;exact h.2)))]);·exact Qeh
     ·rw[Zao g1 g2 (.inr (.inr hm)),ZmF hm];rfl
  ·have hh:halv true 0 6 sl=(([],[]),20):=QjN;rw[ZmF (fun h=>h g1),ZmH g2,hh];rfl
 ·have hh:halv true 0 6 sl=(([],[]),19):=(by unfold halv;rw[ZmH g1]);rw[ZmH g1,hh];rfl
def shortP (h:(List UInt8×List Nat)×Int):(Int×List UInt8)×Int:=
 if h.2≠0 then((0,[]),h.2)else if Ea.good h.1.1 then((2,h.1.1),0)else((0,[]),8)
theorem ZjD (sl:List Bool) (hW:sl.length=67):Ea.rdSym 67 sl=shortP (halv false 0 4 sl):=by
 unfold Ea.rdSym;rw[show 67-(Ea.stp 67).length=sl.length-3 by rw[hW];rfl,show Ea.stp 67=Ea.gd from rfl];by_cases g1:sl.take 3=Ea.gd
 ·by_cases g2:sl.drop (sl.length-3)=Ea.gd
  ·rw[ZmF (fun h=>h g1),ZmF (fun h=>h g2)]
   rw[show Ea.rdK 67 sl=Ea.rd8 sl from rfl]
   unfold Ea.rd8
   cases h1:Ea.rcg false 0 0 4 (sl.drop 3)with
   |none=>rw[Zao g1 g2 (.inl h1)];rfl
   |some p=>
    obtain⟨l,u⟩:=p
    cases h2:Ea.rcg false 2 0 4 (sl.drop 36)with
    |none=>rw[Zao g1 g2 (.inr (.inl h2))];rfl
    |some q=>obtain⟨r,v⟩:=q;dsimp only;by_cases hm:(sl.drop 31).take 5=Ea.md;(·have hh:=ZdM g1 g2 h1 h2 hm;obtain⟨k1,k2,k3,k4⟩:=Zcr hh QhN;rw[ZmH hm,hh];unfold shortP;rw[ZmF QhQ];dsimp only;have hfull:=ZbX (k:=2) (l:=l++r) QhP k1 (by rw[k2];rfl) (fun e=>by cases e);rw[ZmF (show¬(2:Int)=4 by decide)]at hfull;rw[show Ea.kindOf 67=2 from rfl,hfull];by_cases hg:Ea.good (l++r);(·exact Qft);·exact Qeh);·rw[Zao g1 g2 (.inr (.inr hm)),ZmF hm];rfl
  ·have hh:halv false 0 4 sl=(([],[]),20):=QjN;rw[ZmF (fun h=>h g1),ZmH g2,hh];rfl
 ·have hh:halv false 0 4 sl=(([],[]),19):=(by unfold halv;rw[ZmH g1]);rw[ZmH g1,hh];rfl
end Go.Proofs.YtbngggoccndefaaGreatDoor
namespace Go.Proofs.YtbngggoccndefaaGreatDoor
open Go.Proofs.Tryz
open Go.RowKit
theorem Zak {w w':World} {x y z:Value} {t:TypeId} (h:Ext (w.alloc (.cells #[x,y,z] t)) w'):
 w.heap.size<w'.heap.size∧w'.cell? ⟨w.heap.size,0,none⟩=some x∧w'.cell? ⟨w.heap.size,1,none⟩=some y∧w'.cell? ⟨w.heap.size,2,none⟩=some z∧
  w'.frozen? ⟨w.heap.size,0,none⟩=false∧w'.frozen? ⟨w.heap.size,1,none⟩=false∧w'.frozen? ⟨w.heap.size,2,none⟩=false∧
  Hid (w'.heap[w.heap.size]? =some (.cells #[x,y,z] t (0,0))):=by
 have hs:=h.size
 have hlt:w.heap.size<(w.alloc (.cells #[x,y,z] t)).heap.size:=by simp
 have hb:w'.heap[w.heap.size]? =some (.cells #[x,y,z] t (0,0)):=by rw[h.block _ hlt];exact Qgb
 exact⟨by omega,Zw hb rfl,Zw hb rfl,Zw hb rfl,ZB hb,ZB hb,ZB hb,ZmE hb⟩
theorem Zg {w:World} {b:Nat} {x y z p q r:Value} {t:TypeId} (h:Hid (w.heap[b]? =some (.cells #[x,y,z] t (0,0)))):
 (((w.setCell ⟨b,0,none⟩ p).setCell ⟨b,1,none⟩ q).setCell ⟨b,2,none⟩ r).heap[b]? =some (.cells #[p,q,r] t (0,0)):=
 Zk (Zk (Zk h.out))
theorem Ze {fn:Func} {p u:Tmp} (h:fn.results= #[.cell p 33,.tmp u]) {tmps:Array Value} {w:World} {g:Nat} {t:TypeId} {x y z e:Value}
 (hp:tmps.getD p undef=.pointer (some ⟨g,0,none⟩)) (hg:w.heap[g]? =some (.cells #[x,y,z] t (0,0))) (he:tmps.getD u undef=e):
 (results fn tmps).run prog w=.ok (.tuple #[.agg #[x,y,z],e]) w:=by
 rw[results_cell_tmp h,hp,he]
 simp only[asAddr,Zqf,Zp6]
 rw[Zql w g t _ #[x,y,z] (0,0) _ hg underlying33 rfl QhO]
 rfl
theorem Ext.before {w w':World} {o:Obj} (h:Ext (w.alloc o) w'):Ext w w':=((Ext.refl w).alloc o).trans h
theorem Zeo (s:ByteArray) (sl:List Bool) (hs:s.data.toList=Ea.mS sl) (hW:sl.length=67) (w:World):
 Calls prog 213 #[.string s] w fun e w'=>e=.returned (symV (Ea.rdSym 67 sl))∧Ext w w':=by
 have HH:=ZmE (fun w=>ZeD s sl hs hW w)
 rw[ZjD sl hW]
 obtain⟨⟨⟨l,u⟩,er⟩,hh⟩:∃r,halv false 0 4 sl=r:=⟨_,rfl⟩
 rw[hh]at HH⊢
 simp only[halV]at HH
 have hk:er=0->Ea.digs l=true∧l.length=2*4:=fun h0=>by subst h0;obtain⟨a,b,_⟩:=Zcr hh QhN;exact⟨a,b⟩
 clear hs hW hh
 by_cases h0:er=0
 ·subst h0;obtain⟨hd,hl⟩:=hk rfl;have hR:=fun w=>ZaG 2 (Ea.bS l) hd (.inr ⟨by decide,by rw[Zc (Ea.bS_list l)];omega,by rw[Zc (Ea.bS_list l)];omega⟩) w;rw[ZmF (show¬(2:Int)=4 by decide),Ea.bS_list]at hR;have HR:=ZmE hR;clear hR hk hd hl;by_cases hg:Ea.good l;(·rw[ZmR hg]at HR;have HG:Hid (shortP ((l,u),0)=((2,l),0)):=ZmE (by unfold shortP;rw[ZmF QhQ,ZmH hg]);exact Qa9);·rw[ZmS hg]at HR;have HG:Hid (shortP ((l,u),0)=((0,[]),8)):=ZmE (by unfold shortP;rw[ZmF QhQ,ZmF hg]);exact Qa9
 ·have HG:Hid (shortP ((l,u),er)=((0,[]),er)):=ZmE (by unfold shortP;rw[ZmH h0]);rw[HG.out];clear HG hk;unfold symV linV;dsimp only;generalize Ea.bS l=L at*;generalize Ea.bS (Ea.sS u)=U at*;have hb:(er !=0)=true:=ZnA.2 h0;go_enter func213,ntmps213;go_wp2_with fail;refine(HH.out _).mono ?_;rintro e w2 ⟨rfl,hx⟩;obtain⟨z0,z1,z2,z3,z4,z5,z6,HB⟩:=Zak hx;have hxw:=hx.before;clear hx;go_wp2;refine Zng (Ze results213 rfl (Zg HB) rfl) rfl ?_;exact Qcv
end Go.Proofs.YtbngggoccndefaaGreatDoor
namespace Go.Proofs.YtbngggoccndefaaGreatDoor
open Go.Proofs.Tryz
open Go.RowKit
theorem ZaY {w:World} {b g:Nat} {o:Option Obj} {p q r:Value} (hne:b≠g) (h:Hid (w.heap[g]? =o)):
 Hid ((((w.setCell ⟨b,0,none⟩ p).setCell ⟨b,1,none⟩ q).setCell ⟨b,2,none⟩ r).heap[g]? =o):=by
 have e:∀(w:World) (i:Nat) (u:Value),(w.setCell ⟨b,i,none⟩ u).heap[g]? =w.heap[g]? :=fun w i u=>by simp[World.setCell,ZoO,hne]
 exact ZmE (by rw[e,e,e];exact h.out)
theorem ZeU (s:ByteArray) (sl:List Bool) (hs:s.data.toList=Ea.mS sl) (hW:sl.length=95) (w:World):
 Calls prog 212 #[.string s] w fun e w'=>e=.returned (symV (Ea.rdSym 95 sl))∧Ext w w':=by
 have HH:=ZmE (fun w=>Zfy s sl hs hW w)
 rw[Zk4 sl hW]
 obtain⟨⟨⟨l,u⟩,er⟩,hh⟩:∃r,halv true 0 6 sl=r:=⟨_,rfl⟩
 rw[hh]at HH⊢
 simp only[halV]at HH
 have hk:er=0->Ea.digs l=true∧l.length=2*6∧∀x∈u,x<3:=fun h0=>by subst h0;obtain⟨a,b,c,_⟩:=Zcr hh QhN;exact⟨a,b,c⟩
 clear hs hW hh
 by_cases h0:er=0
 ·subst h0
  obtain⟨hd,hl,hu⟩:=hk rfl
  have HLI:=ZmE (Ea.left_idx u hu)
  have hLs:(Ea.bS l).size<=12:=by rw[Zc (Ea.bS_list l)];omega
  have HLD:=ZmE (And.intro hd hl)
  have HPL:Hid (∀d,Ea.find13 u=some d->d<10):=ZmE (fun d h=>(Ea.find13_some h).1)
  obtain⟨Q,hQ⟩:∃Q,(Ea.leftB.map Value.string).toArray=Q:=⟨_,rfl⟩
  have hRl:Ea.leftB.length=10:=rfl
  have hQs:Q.size=10:=by rw[<-hQ];simp[hRl]
  have HQ1:Hid (Q.all (·.oneCell')=true):=ZmE Qjf
  have HQd:Hid (∀i,i<10->Q[i]? =some (.string (Ea.leftB.getD i ByteArray.empty))):=ZmE (fun i hi=>by rw[<-hQ];simp only[Zph,Znm];rw[ZmG QiB,ZmL,ZmG QiB];rfl)
  have HRL:=ZmE hRl
  have HDR:=ZmE (fun w=>Zcc w)
  unfold arrV at HDR
  rw[hQ]at HDR
  clear hk hQ hRl hu hd hl
  obtain⟨res,hres⟩:∃res,longP ((l,u),0)=res:=⟨_,rfl⟩
  rw[hres]
  have HRS:=ZmE hres
  clear hres
  obtain⟨L,hL⟩:∃L,Ea.bS l=L:=⟨_,rfl⟩
  have HL:=ZmE hL
  obtain⟨U,hU⟩:∃U,Ea.bS (Ea.sS u)=U:=⟨_,rfl⟩
  rw[hL]at HH hLs
  rw[hU]at HH HLI
  clear hL hU
  go_enter func212,ntmps212
  go_wp2_with fail
  refine(HH.out _).mono ?_
  rintro e w1 ⟨rfl,hx1⟩
  go_wp2_with fail
  refine(HDR.out _).mono ?_
  rintro e w4 ⟨rfl,hx4⟩
  have hst:=ZG Q hQs HQ1.out w4
  have HNC:=ZmE (fun i hi=>ZC Q 210 w4 (HQd.out i hi))
  go_wp2_with fail
  obtain⟨w5,hw5⟩:∃w5,w4.alloc (.cells Q 210)=w5:=⟨_,rfl⟩
  have hsz:w4.heap.size<w5.heap.size:=by rw[<-hw5];simp
  have hx5:=(hx1.trans hx4).alloc (.cells Q 210)
  rw[hw5]at hx5
  rw[hw5]at HNC⊢
  clear hx1 hx4
  have HIX:=ZmE (Tryz.slices_Index_string w4.heap.size 0 10 10 Ea.leftB U w5 Qih QhN (fun i hi=>by rw[Zoa];exact HNC.out i QjE))
  rw[show Ea.leftB.take 10=Ea.leftB from rfl,HLI.out]at HIX
  clear hst hw5 HNC HRL HQd HQ1 HLI
  cases hf:Ea.find13 u with
  |none=>rw[hf]at HIX;simp only[Ea.plcO]at HIX;have HG:Hid (res=((0,[]),18)):=ZmE (by rw[<-HRS.out];unfold longP;rw[ZmF QhQ];dsimp only;rw[hf]);clear hf HPL;refine HIX.out.mono ?_;rintro e w8 ⟨rfl,rfl⟩;have hx:=hx5;obtain⟨z0,z1,z2,z3,z4,z5,z6,HB⟩:=Zak hx;have hxw:=hx.before;clear hx5 hx;exact Qd3
  |some d=>rw[hf]at HIX;simp only[Ea.plcO]at HIX;have hd10:=HPL.out d hf;have HF:=ZmE hf;clear hf HPL;refine HIX.out.mono ?_;rintro e w8 ⟨rfl,rfl⟩;have hc1:(Utf8.encode (48+(d:Int))).data.toList=[Ea.chr d]:=Qe1;have hz1:(Utf8.encode (48+(d:Int))).size=1:=Zc hc1;obtain⟨CD,hCD⟩:∃CD,Utf8.encode (48+(d:Int))=CD:=⟨_,rfl⟩;rw[hCD]at hc1 hz1;(have hr1:∀w,(convert 21 9 (.int .i32 (48+(d:Int)))).run prog w=.ok (.string CD) w:=fun w=>by rw[<-hCD];exact Zpe w _ _ _ _ QhO underlying9);have HSS:Hid (CD++L=Ea.bS (Ea.chr d::l)):=ZmE (by apply Zh;rw[Znt,Znw,hc1,<-HL.out];rfl);have HR:=ZmE (fun w=>ZaG 1 (Ea.bS (Ea.chr d::l)) (Ea.digs_cons (Zbx hd10) HLD.out.1) (.inr ⟨by decide,by rw[Zc (Ea.bS_list _),ZmQ,HLD.out.2];omega,by rw[Zc (Ea.bS_list _),ZmQ,HLD.out.2];omega⟩) w);rw[ZmF (show¬(1:Int)=4 by decide),Ea.bS_list,<-HSS.out]at HR;clear hc1 hCD;by_cases hg:Ea.good (Ea.chr d::l);(·rw[ZmR hg]at HR;by_cases hd0:d=0;(·have HG:Hid (res=((3,l),0)):=ZmE (by rw[<-HRS.out];unfold longP;rw[ZmF QhQ];dsimp only;rw[HF.out];dsimp only;rw[ZmH hg,ZmH hd0]);have hb0:((d:Int)==0)=true:=(by rw[hd0];rfl);clear hg hd0;go_wp2_with fail;refine(HR.out _).mono ?_;rintro e w9 ⟨rfl,hx9⟩;have hx:=(hx5.alloc _).trans hx9;have hlt:w.heap.size<w8.heap.size:=Qjx;obtain⟨z0,z1,z2,z3,z4,z5,z6,HB⟩:=Zak hx;obtain⟨y0,y1,y2,y3,y4,y5,y6,HC⟩:=Zak hx9;have hxw:=hx.before;clear hx5 hx hx9;have HL2:Hid (w8.heap.size≠w.heap.size∧w.heap.size<=w8.heap.size):=ZmE ⟨by omega,by omega⟩;go_wp2;refine Zng (Ze results212 rfl (Zg (ZaY HL2.out.1 HB)) rfl) rfl ?_;have HX:=(((hxw.setCell (p:=⟨w8.heap.size,0,none⟩) HL2.out.2 (.int .i64 3)).setCell (p:=⟨w8.heap.size,1,none⟩) HL2.out.2 (.string L)).setCell (p:=⟨w8.heap.size,2,none⟩) HL2.out.2 (.string ⟨#[]⟩));exact⟨by rw[HG.out];unfold symV linV;dsimp only;rw[HL.out];rfl,((HX.setCell (ZmK _) _).setCell (ZmK _) _).setCell (ZmK _) _⟩);·have HG:Hid (res=((1,Ea.chr d::l),0)):=ZmE (by rw[<-HRS.out];unfold longP;rw[ZmF QhQ];dsimp only;rw[HF.out];dsimp only;rw[ZmH hg,ZmF hd0]);have hb0:((d:Int)==0)=false:=Qai;clear hg hd0;go_wp2_with fail;refine(HR.out _).mono ?_;rintro e w9 ⟨rfl,hx9⟩;have hx:=(hx5.alloc _).trans hx9;have hlt:w.heap.size<w8.heap.size:=Qjx;obtain⟨z0,z1,z2,z3,z4,z5,z6,HB⟩:=Zak hx;obtain⟨y0,y1,y2,y3,y4,y5,y6,HC⟩:=Zak hx9;have hxw:=hx.before;clear hx5 hx hx9;go_wp2;refine Zng (Ze results212 rfl (Zg HB) rfl) rfl ?_;exact Qfj);·rw[ZmS hg]at HR;have HG:Hid (res=((0,[]),8)):=ZmE (by rw[<-HRS.out];unfold longP;rw[ZmF QhQ];dsimp only;rw[HF.out];dsimp only;rw[ZmF hg]);clear hg;go_wp2_with fail;refine(HR.out _).mono ?_;rintro e w9 ⟨rfl,hx9⟩;have hx:=(hx5.alloc _).trans hx9;have hlt:w.heap.size<w8.heap.size:=Qjx;obtain⟨z0,z1,z2,z3,z4,z5,z6,HB⟩:=Zak hx;obtain⟨y0,y1,y2,y3,y4,y5,y6,HC⟩:=Zak hx9;have hxw:=hx.before;clear hx5 hx hx9;exact Qd3
 ·have HG:Hid (longP ((l,u),er)=((0,[]),er)):=ZmE (by unfold longP;rw[ZmH h0]);rw[HG.out];clear HG hk;unfold symV linV;dsimp only;generalize Ea.bS l=L at*;generalize Ea.bS (Ea.sS u)=U at*;have hb:(er !=0)=true:=ZnA.2 h0;go_enter func212,ntmps212;go_wp2_with fail;refine(HH.out _).mono ?_;rintro e w2 ⟨rfl,hx⟩;obtain⟨z0,z1,z2,z3,z4,z5,z6,HB⟩:=Zak hx;have hxw:=hx.before;clear hx;go_wp2;refine Zng (Ze results212 rfl (Zg HB) rfl) rfl ?_;exact Qcv
end Go.Proofs.YtbngggoccndefaaGreatDoor
end
