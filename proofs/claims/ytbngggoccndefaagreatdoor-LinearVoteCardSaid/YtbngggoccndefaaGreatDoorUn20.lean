/-
  Laid.
-/
import Derived.Test.YtbngggoccndefaaGreatDoorUn19
set_option maxHeartbeats 16000000
set_option maxRecDepth 100000
set_option linter.all false
namespace Go.Proofs.YtbngggoccndefaaGreatDoor
open Go.Proofs.Tryz
section
open Go.RowKit
theorem Zhh (k:Int) (s a:ByteArray) (hs:s.size<=9223372036854775807) (ha:a.size<=9223372036854775807) (w:World):
 Calls prog 64 #[.int .i64 k,.string s,.string a] w (UL (Ea.enc k s.data.toList a.data.toList) w):=by
 have HX:=A0 (Ea.enc.eq_1 k s.data.toList a.data.toList)
 have HF:=A0 (rF k s.data.toList)
 have HD:=A0 (EM s hs)
 have HDA:=A0 (EM a ha)
 have HZ:=A0 (EJ k)
 have HQ:=A0 (ZjT k)
 rw[Zd]at HX HF
 by_cases h1:Ea.size k=0
 ·rw[D0 h1]at HF;rw[HF.out,D0 I0]at HX;rw[h1]at HZ;generalize Ea.enc k s.data.toList a.data.toList=res at*;clear h1 HF;go_enter func64,ntmps64;go_wp2_with fail;refine(HZ.out _).mono ?_;exact DJ
 ·rw[C0 h1]at HF;have hkk:=Ea.kinds h1;obtain⟨hn1,hn2⟩:8<=Ea.size k∧Ea.size k<=13:=DE;have b1:((Ea.size k:Int)==0)=false:=N0.2 B0;by_cases h2:Ea.digs s.data.toList=false;(·rw[D0 h2]at HF;rw[HF.out,D0 I0]at HX;rw[h2]at HD;generalize Ea.enc k s.data.toList a.data.toList=res at*;generalize Ea.size k=n at*;clear h1 h2 hkk hn1 hn2 HF;exact rP)
  ·have h2':Ea.digs s.data.toList=true:=B8;rw[C0 h2]at HF;rw[h2']at HD;by_cases h3:s.size≠Ea.size k;(·rw[D0 h3]at HF;rw[HF.out,D0 I0]at HX;generalize Ea.enc k s.data.toList a.data.toList=res at*;generalize Ea.size k=n at*;have b3:((s.size:Int) !=(n:Int))=true:=S0;clear h1 h2 h2' h3 hkk hn1 hn2 HF;exact rP)
   ·rw[C0 h3]at HF;have h3':s.size=Ea.size k:=B0;have b3:((s.size:Int) !=(Ea.size k:Int))=false:=S0;have hn4:k=4->Ea.size k=8:=(by rintro rfl;rfl);have HRI:=A0 (RR k s h2' (by by_cases e:k=4;exact .inl ⟨e,by rw[h3',hn4 e]⟩;exact .inr ⟨e,by omega,by omega⟩));have HN:=A0 (gH s B0);rw[rE s B0 h2']at HN;clear h3' hn4;by_cases h4:k=4
    ·subst h4;by_cases h6:s.data.toList.getD 0 0<=49
     ·rw[C0 (fun h=>h.2 h6)]at HF;rw[V0 h6]at HN;clear h6;by_cases h5:Ea.good (if(4:Int)=4 then Ea.exp8 s.data.toList else s.data.toList)
      ·rw[D0 h5]at HF;rw[V0 h5]at HRI;have hf0:Ea.full 4 s.data.toList=0:=HF.out;rw[HF.out,C0 I0]at HX;by_cases a1:Ea.digs a.data.toList=false;(·rw[D0 a1]at HX;rw[a1]at HDA;generalize Ea.enc 4 s.data.toList a.data.toList=res at*;generalize Ea.size 4=n at*;exact rQ)
       ·have a1':Ea.digs a.data.toList=true:=(by simpa using a1);rw[C0 a1]at HX;rw[a1']at HDA;by_cases a2:a.size≠0∧a.size≠2∧a.size≠5;(·rw[D0 a2]at HX;generalize Ea.enc 4 s.data.toList a.data.toList=res at*;generalize Ea.size 4=n at*;have z0:((a.size:Int) !=0)=true:=C3.2 B0;have z2:((a.size:Int) !=2)=true:=C3.2 B0;have z5:((a.size:Int) !=5)=true:=C3.2 B0;clear a1 a1' a2;exact rQ)
        ·rw[C0 a2]at HX;have HSY:=A0 (rO 4 s hf0);obtain⟨Y,hY,hYl,hYs⟩:=named (l:=Ea.sym 4 s.data.toList);rw[hY]at HSY;rw[Ea.sym_len hf0]at hYs;have hYs:Y.size<=95:=(by rw[hYs];unfold Ea.wOf;exact M8);have hlq:Ea.lq 4<=11:=(by unfold Ea.lq;exact M8);have hrq:Ea.rq 4<=9:=(by unfold Ea.rq;exact Y6);have HL:=A0 (I9 (Ea.lq 4) B0);obtain⟨L,hL,hLl,hLs⟩:=named (l:=Ea.lgt (Ea.lq 4));rw[hL]at HL;rw[Ea.lgt_len]at hLs;by_cases a3:a.size=0;(·rw[D0 a3]at HX;have HRQ:=A0 (I9 (Ea.rq 4) B0);obtain⟨Q,hQ,hQl,hQs⟩:=named (l:=Ea.lgt (Ea.rq 4));rw[hQ]at HRQ;rw[Ea.lgt_len]at hQs;have HMO:=A0 (MN (L++Y++Q) (Ea.lgt (Ea.lq 4)++Ea.sym 4 s.data.toList++Ea.lgt (Ea.rq 4)) rR (by rw[T0,T0,Ea.lgt_len,Ea.lgt_len,<-Ea.mS_len (Ea.sym 4 s.data.toList),<-hYl,Zd];omega));have hLs:L.size<=11:=B0;have hQs:Q.size<=9:=B0;have zz:a.toList=[]:=(by rw[C2,(XN a).2 a3]);have zy:a.toList.isEmpty=true:=(by rw[zz];rfl);have z0:((a.size:Int) !=0)=false:=(by rw[a3];rfl);generalize Ea.enc 4 s.data.toList a.data.toList=res at*;generalize Ea.size 4=n at*;generalize Ea.lq 4=lq at*;generalize Ea.rq 4=rq at*;clear a1 a1' a2 a3 hf0 hY hYl hL hLl hQ hQl;clear h1 h2 h2' h3 h5 hkk hn1 HF;go_enter func64,ntmps64;go_wp2_with fail;refine(HZ.out _).mono ?_;rintro e w1 ⟨rfl,rfl⟩;go_wp2_with fail;refine(HD.out _).mono ?_;rintro e w1 ⟨rfl,rfl⟩;go_wp2_with fail;refine(HN.out _).mono ?_;exact rS)
         ·rw[C0 a3]at HX;have a25:a.size=2∨a.size=5:=B0;obtain⟨e1,e2⟩:=Ea.setsAdd_ok (a:=a.data.toList) RY;have HAS:=A0 (DC a a25 a1');have HDR:=A0 (WC a (Ea.bS (Ea.sS (Ea.setsAdd a.data.toList))) ⟨#[48,49]⟩ (Ea.setsAdd a.data.toList) Ea.gA a1' rfl (by rw[e1,Zd]) (fun u hu=>by have:=e2 u hu;omega) rfl B0 I0);have hAL:=Ea.addn_len a1' RY;unfold Ea.addn at hAL;rw[T0,Zd]at hAL;obtain⟨G,hG,hGl,hGs⟩:=named (l:=Ea.drw Ea.gA a.data.toList (Ea.setsAdd a.data.toList));rw[hG]at HDR;have hw47:Ea.wAdd a.size<=47:=(by unfold Ea.wAdd;exact M8);have hGs:G.size<=47:=B0;have HL9:=A0 (I9 9 B0);obtain⟨N9,h9,h9l,h9s⟩:=named (l:=Ea.lgt 9);rw[h9]at HL9;rw[Ea.lgt_len]at h9s;have HL7:=A0 (I9 7 B0);obtain⟨N7,h7,h7l,h7s⟩:=named (l:=Ea.lgt 7);rw[h7]at HL7;rw[Ea.lgt_len]at h7s;have HMO:=A0 (MN (L++Y++(N9++⟨#[49,48,49,49]⟩++G)++N7) (Ea.lgt (Ea.lq 4)++Ea.sym 4 s.data.toList++Ea.lgt 9++Ea.addn a.data.toList++Ea.lgt 7) (by
           simp only[Y3,F4,hLl,hYl,h9l,h7l,hGl,Ea.mS_app,Ea.addn,M3];rfl) (by
           have e3:(Ea.addn a.data.toList).length<=47:=rT;simp only[T0,Ea.lgt_len];rw[<-Ea.mS_len (Ea.sym 4 s.data.toList),<-hYl,Zd];omega))
          have hLs:L.size<=11:=B0;obtain⟨T,hT⟩:∃T,Ea.bS (Ea.sS (Ea.setsAdd a.data.toList))=T:=⟨_,rfl⟩;rw[hT]at HAS HDR;have zy:a.toList.isEmpty=false:=rU;have z0:((a.size:Int) !=0)=true:=C3.2 B0;have z25:((a.size:Int) !=2&&(a.size:Int) !=5)=false:=(by rcases a25 with h|h<;>rw[h]<;>rfl);generalize Ea.enc 4 s.data.toList a.data.toList=res at*;generalize Ea.size 4=n at*;generalize Ea.lq 4=lq at*;generalize Ea.rq 4=rq at*;have ha5:a.size<=5:=B0;clear a1 a1' a2 a3 hf0 hY hYl hL hLl h9 h9l h7 h7l hG hGl e1 e2 hAL hw47 hT;rcases a25 with a25|a25;(·have z2:((a.size:Int) !=2)=false:=UV;exact rV);·have z2:((a.size:Int) !=2)=true:=UV;have z5:((a.size:Int) !=5)=false:=UV;exact rV
      ·rw[C0 h5]at HF;rw[X0 h5]at HRI;rw[HF.out,D0 I0]at HX;generalize Ea.enc 4 s.data.toList a.data.toList=res at*;generalize Ea.size 4=n at*;clear h1 h2 h2' h3 h5 hkk hn1 HF;go_enter func64,ntmps64;go_wp2_with fail;refine(HZ.out _).mono ?_;rintro e w1 ⟨rfl,rfl⟩;go_wp2_with fail;refine(HD.out _).mono ?_;rintro e w1 ⟨rfl,rfl⟩;go_wp2_with fail;refine(HN.out _).mono ?_;exact rW
     ·rw[D0 ⟨rfl,h6⟩]at HF;rw[HF.out,D0 I0]at HX;rw[X0 h6]at HN;generalize Ea.enc 4 s.data.toList a.data.toList=res at*;generalize Ea.size 4=n at*;clear h1 h2 h2' h3 h6 hkk hn1 HF HRI;go_enter func64,ntmps64;go_wp2_with fail;refine(HZ.out _).mono ?_;rintro e w1 ⟨rfl,rfl⟩;go_wp2_with fail;refine(HD.out _).mono ?_;rintro e w1 ⟨rfl,rfl⟩;go_wp2_with fail;refine(HN.out _).mono ?_;exact DJ
    ·have b4:(k==4)=false:=N0.2 h4;rw[C0 (fun h=>h4 h.1)]at HF;by_cases h5:Ea.good (if k=4 then Ea.exp8 s.data.toList else s.data.toList)
     ·rw[D0 h5]at HF;rw[V0 h5]at HRI;have hf0:Ea.full k s.data.toList=0:=HF.out;rw[HF.out,C0 I0]at HX;by_cases a1:Ea.digs a.data.toList=false;(·rw[D0 a1]at HX;rw[a1]at HDA;generalize Ea.enc k s.data.toList a.data.toList=res at*;generalize Ea.size k=n at*;exact rX)
      ·have a1':Ea.digs a.data.toList=true:=(by simpa using a1);rw[C0 a1]at HX;rw[a1']at HDA;by_cases a2:a.size≠0∧a.size≠2∧a.size≠5;(·rw[D0 a2]at HX;generalize Ea.enc k s.data.toList a.data.toList=res at*;generalize Ea.size k=n at*;have z0:((a.size:Int) !=0)=true:=C3.2 B0;have z2:((a.size:Int) !=2)=true:=C3.2 B0;have z5:((a.size:Int) !=5)=true:=C3.2 B0;clear a1 a1' a2;exact rX)
       ·rw[C0 a2]at HX;have HSY:=A0 (rO k s hf0);obtain⟨Y,hY,hYl,hYs⟩:=named (l:=Ea.sym k s.data.toList);rw[hY]at HSY;rw[Ea.sym_len hf0]at hYs;have hYs:Y.size<=95:=(by rw[hYs];unfold Ea.wOf;exact M8);have hlq:Ea.lq k<=11:=(by unfold Ea.lq;exact M8);have hrq:Ea.rq k<=9:=(by unfold Ea.rq;exact Y6);have HL:=A0 (I9 (Ea.lq k) B0);obtain⟨L,hL,hLl,hLs⟩:=named (l:=Ea.lgt (Ea.lq k));rw[hL]at HL;rw[Ea.lgt_len]at hLs;by_cases a3:a.size=0;(·rw[D0 a3]at HX;have HRQ:=A0 (I9 (Ea.rq k) B0);obtain⟨Q,hQ,hQl,hQs⟩:=named (l:=Ea.lgt (Ea.rq k));rw[hQ]at HRQ;rw[Ea.lgt_len]at hQs;have HMO:=A0 (MN (L++Y++Q) (Ea.lgt (Ea.lq k)++Ea.sym k s.data.toList++Ea.lgt (Ea.rq k)) rR (by rw[T0,T0,Ea.lgt_len,Ea.lgt_len,<-Ea.mS_len (Ea.sym k s.data.toList),<-hYl,Zd];omega));have hLs:L.size<=11:=B0;have hQs:Q.size<=9:=B0;have zz:a.toList=[]:=(by rw[C2,(XN a).2 a3]);have zy:a.toList.isEmpty=true:=(by rw[zz];rfl);have z0:((a.size:Int) !=0)=false:=(by rw[a3];rfl);generalize Ea.enc k s.data.toList a.data.toList=res at*;generalize Ea.size k=n at*;generalize Ea.lq k=lq at*;generalize Ea.rq k=rq at*;clear a1 a1' a2 a3 hf0 hY hYl hL hLl hQ hQl;clear h1 h2 h2' h3 h5 hkk hn1 HF h4;go_enter func64,ntmps64;go_wp2_with fail;refine(HZ.out _).mono ?_;rintro e w1 ⟨rfl,rfl⟩;go_wp2_with fail;refine(HD.out _).mono ?_;exact rS)
        ·rw[C0 a3]at HX;have a25:a.size=2∨a.size=5:=B0;obtain⟨e1,e2⟩:=Ea.setsAdd_ok (a:=a.data.toList) RY;have HAS:=A0 (DC a a25 a1');have HDR:=A0 (WC a (Ea.bS (Ea.sS (Ea.setsAdd a.data.toList))) ⟨#[48,49]⟩ (Ea.setsAdd a.data.toList) Ea.gA a1' rfl (by rw[e1,Zd]) (fun u hu=>by have:=e2 u hu;omega) rfl B0 I0);have hAL:=Ea.addn_len a1' RY;unfold Ea.addn at hAL;rw[T0,Zd]at hAL;obtain⟨G,hG,hGl,hGs⟩:=named (l:=Ea.drw Ea.gA a.data.toList (Ea.setsAdd a.data.toList));rw[hG]at HDR;have hw47:Ea.wAdd a.size<=47:=(by unfold Ea.wAdd;exact M8);have hGs:G.size<=47:=B0;have HL9:=A0 (I9 9 B0);obtain⟨N9,h9,h9l,h9s⟩:=named (l:=Ea.lgt 9);rw[h9]at HL9;rw[Ea.lgt_len]at h9s;have HL7:=A0 (I9 7 B0);obtain⟨N7,h7,h7l,h7s⟩:=named (l:=Ea.lgt 7);rw[h7]at HL7;rw[Ea.lgt_len]at h7s;have HMO:=A0 (MN (L++Y++(N9++⟨#[49,48,49,49]⟩++G)++N7) (Ea.lgt (Ea.lq k)++Ea.sym k s.data.toList++Ea.lgt 9++Ea.addn a.data.toList++Ea.lgt 7) (by
          simp only[Y3,F4,hLl,hYl,h9l,h7l,hGl,Ea.mS_app,Ea.addn,M3];rfl) (by
          have e3:(Ea.addn a.data.toList).length<=47:=rT;simp only[T0,Ea.lgt_len];rw[<-Ea.mS_len (Ea.sym k s.data.toList),<-hYl,Zd];omega))
         have hLs:L.size<=11:=B0;obtain⟨T,hT⟩:∃T,Ea.bS (Ea.sS (Ea.setsAdd a.data.toList))=T:=⟨_,rfl⟩;rw[hT]at HAS HDR;have zy:a.toList.isEmpty=false:=rU;have z0:((a.size:Int) !=0)=true:=C3.2 B0;have z25:((a.size:Int) !=2&&(a.size:Int) !=5)=false:=(by rcases a25 with h|h<;>rw[h]<;>rfl);generalize Ea.enc k s.data.toList a.data.toList=res at*;generalize Ea.size k=n at*;generalize Ea.lq k=lq at*;generalize Ea.rq k=rq at*;have ha5:a.size<=5:=B0;clear a1 a1' a2 a3 hf0 hY hYl hL hLl h9 h9l h7 h7l hG hGl e1 e2 hAL hw47 hT;rcases a25 with a25|a25;(·have z2:((a.size:Int) !=2)=false:=UV;exact rY);·have z2:((a.size:Int) !=2)=true:=UV;have z5:((a.size:Int) !=5)=false:=UV;exact rY
     ·rw[C0 h5]at HF;rw[X0 h5]at HRI;rw[HF.out,D0 I0]at HX;generalize Ea.enc k s.data.toList a.data.toList=res at*;generalize Ea.size k=n at*;clear h1 h2 h2' h3 h5 hkk hn1 HF h4;go_enter func64,ntmps64;go_wp2_with fail;refine(HZ.out _).mono ?_;rintro e w1 ⟨rfl,rfl⟩;go_wp2_with fail;refine(HD.out _).mono ?_;exact rW
end
end Go.Proofs.YtbngggoccndefaaGreatDoor
section
namespace Go.Proofs.YtbngggoccndefaaGreatDoor
open Go.Proofs.Tryz
open Go.RowKit
theorem LC (x:Nat) (hx:x<128):(Utf8.encode (x:Int)).data.toList=[UInt8.ofNat x]:=by
 have hv:Utf8.valid (x:Int)=true:=by unfold Utf8.valid;exact S0
 unfold Utf8.encode;simp[hv,hx]
def scan (al:List Nat) (m:List Bool):Option (Nat×Nat):=al.foldl (fun acc t=>match Ea.lookT t m with
 |some d=>some (d,t)
 |none=>acc) none
theorem rZ (al:List Nat) (t:Nat) (m:List Bool):scan (al++[t]) m=match Ea.lookT t m with
 |some d=>some (d,t)
 |none=>scan al m:=by unfold scan;rw[List.foldl_append];rfl
theorem Zkh (m:List Bool):scan [0,1] m=Ea.look true 0 m:=by unfold scan Ea.look;simp only[F1,O1,W4];cases Ea.lookT 1 m<;>cases Ea.lookT 0 m<;>rfl
theorem ZlK (t:Nat) (m:List Bool):scan [t] m=Ea.look false t m:=by unfold scan Ea.look;simp only[F1,O1,WG,R6];cases Ea.lookT t m<;>rfl
def alOf (both:Bool) (t:Nat):List Nat:=if both=true then [0,1]else [t]
theorem Znl (both:Bool) (t:Nat) (ht:both=true->t=0) (m:List Bool):scan (alOf both t) m=Ea.look both t m:=by
 cases both with
 |true=>rw[ht rfl];exact Zkh m
 |false=>exact ZlK t m
def scD (o:Option (Nat×Nat)):Int:=match o with
 |some (d,_)=>(d:Int)
 |none=> -1
def scT (o:Option (Nat×Nat)):Int:=match o with
 |some (_,t)=>65+(t:Int)
 |none=>0
theorem Znm {al:List Nat} (ha:∀t∈al,t<3) {m:List Bool} {d t:Nat} (h:scan al m=some (d,t)):d<10∧t<3:=by
 have key:∀(al:List Nat) (acc:Option (Nat×Nat)),(∀t∈al,t<3)->(∀d t,acc=some (d,t)->d<10∧t<3)->∀d t,al.foldl (fun acc t=>match Ea.lookT t m with
  |some d=>some (d,t)
  |none=>acc) acc=some (d,t)->d<10∧t<3:=by
  intro al
  induction al with
  |nil=>intro acc _ h d t e;exact h d t e
  |cons u al ih=>
   intro acc h1 h2 d t e
   refine ih _ (fun t ht=>h1 t (V2 _ ht)) ?_ d t e
   intro d t e
   dsimp only at e
   cases hl:Ea.lookT u m with
   |none=>simp only[hl]at e;exact h2 d t e
   |some d0=>simp only[hl]at e;cases e;exact⟨(Ea.lookT_some (h1 u (N2 ..)) hl).1,h1 u (N2 ..)⟩
 exact key al none ha (fun d t h=>by cases h) d t h
def recV (o:Option (List UInt8×List Nat)):Value:=match o with
 |some (l,u)=>.tuple #[.string (Ea.bS l),.string (Ea.bS (Ea.sS u)),.bool true]
 |none=>.tuple #[.string ⟨#[]⟩,.string ⟨#[]⟩,.bool false]
theorem UW (both:Bool) (t n:Nat) (sl:List Bool) (s al:ByteArray) (hs:s.data.toList=Ea.mS sl) (hn:sl.length=7*n) (hn12:n<=12) (ht:t<3) (hb:both=true->t=0) (hal:al.data.toList=Ea.sS (alOf both t)) (w:World):
 Calls prog 254 #[.string s,.string al] w fun e w'=>e=.returned (recV (Ea.rcg both t 0 n sl))∧Ext w w':=by
 obtain⟨R,hR⟩:∃R,Ea.rcg both t 0 n sl=R:=⟨_,rfl⟩
 rw[hR]
 have HR0:Hid (R=Ea.sofar (Ea.rcg both t 0 n sl) [] []):=A0 (by rw[Ea.sofar_nil,hR])
 have HSC:=A0 (Znl both t hb)
 have HAL:=A0 hal
 have hA3:∀u∈alOf both t,u<3:=by unfold alOf;split;(·simp);·simpa using ht
 have HA3:=A0 hA3
 have hAsz:al.size=(alOf both t).length:=by rw[Zf hal,Ea.sS_len]
 have hAl2:al.size<=2:=by rw[hAsz];unfold alOf;split<;>simp
 have HASZ:=A0 hAsz
 clear hal hA3 hAsz
 generalize alOf both t=A at*
 go_enter func254,ntmps254
 go_wp2_with fail
 go_loopw [0,4,5] (fun v0 v4 v5 wr=>∃(k:Nat) (S D T:ByteArray) (ds:List UInt8) (us:List Nat),k<=n∧v0=.string S∧v4=.string D∧v5=.string T∧Hid (S.data.toList=Ea.mS (sl.drop (7*k)))∧Hid (D.data.toList=ds)∧Hid (T.data.toList=Ea.sS us)∧D.size=k∧T.size=k∧Hid (R=Ea.sofar (Ea.rcg both t 0 (n-k) (sl.drop (7*k))) ds us)∧Ext w wr) (fun v0 _ _ _=>match v0 with| .string S=>S.size|_=>0)
 case atStart=>exact⟨0,s,⟨#[]⟩,⟨#[]⟩,[],[],O0 _,rfl,rfl,rfl,A0 (by rw[NX,R5];exact hs),A0 rfl,A0 rfl,rfl,rfl,A0 (by rw[NX,R5,C7];exact HR0.out),Ext.refl w⟩
 case round=>
  obtain⟨k,S,D,T,ds,us,hk,rfl,rfl,rfl,HS,HD,HT,hDs,hTs,HSO,hxr⟩:=hrel;have hSs:S.size=7*(n-k):=(by rw[Zf HS.out,Ea.mS_len,X2,hn];omega);by_cases hlt:k<n
  ·have hS7:7<=S.size:=B0;have hSl:S.size<=84:=B0;have hne:S.toList.isEmpty=false:=(by rw[C2,ON];intro h;rw[<-Zd,h]at hS7;simp at hS7);obtain⟨m,hm⟩:∃m,(sl.drop (7*k)).take 7=m:=⟨_,rfl⟩;have HP7:Hid (S.extract 0 7=Ea.bS (Ea.mS m)):=A0 (by apply Zl;rw[Zy,HS.out,Ea.mS_take,hm];rfl);clear hSs;go_wp2_with fail;go_loopw [18,7,8] (fun v18 v7 v8 wq=>∃j:Nat,j<=al.size∧v18=.int .i64 (j:Int)∧v7=.int .i64 (scD (scan (A.take j) m))∧v8=.int .u8 (scT (scan (A.take j) m))∧Ext w wq) (fun v18 _ _ _=>al.size-(intOf v18).toNat);(case atStart=>exact⟨0,O0 _,rfl,rfl,rfl,Xf⟩);case round=>
    clear hxr;obtain⟨j,hj,rfl,rfl,rfl,hxr⟩:=hrel;by_cases hja:j<al.size
    ·obtain⟨u,hu⟩:∃u,A[j]? =some u:=⟨_,M0 (by rw[<-HASZ.out];exact hja)⟩
     have hu3:=HA3.out u (J1 hu)
     have hau:al[j].toNat=65+u:=by have h1:al.data.toList[j]? =some al[j]:=M0 (by rw[Zd];exact hja);rw[HAL.out]at h1;unfold Ea.sS at h1;rw[J2,hu]at h1;have h2:Ea.cS u=al[j]:=YM;rw[<-h2];unfold Ea.cS;exact S0
     have HTK:Hid (A.take (j+1)=A.take j++[u]):=A0 (by obtain⟨h1,h2⟩:=I1.1 hu;rw[V8 h1,h2])
     have HDR:Hid (∀w,Calls prog 181 #[.int .u8 (65+(u:Int))] w fun e w'=>e=.returned (arrV (Ea.rowB u))∧Ext w w'):=A0 (fun w=>gM u hu3 w)
     have hRl:=rC hu3
     have HRI:=A0 (Ea.row_idx u m)
     have HLT:Hid (∀d,Ea.lookT u m=some d->d<10):=A0 (fun d h=>(Ea.lookT_some hu3 h).1)
     unfold arrV at HDR
     obtain⟨Q,hQ⟩:∃Q,((Ea.rowB u).map Value.string).toArray=Q:=⟨_,rfl⟩
     have hQs:Q.size=10:=by rw[<-hQ];simp[hRl]
     have HQ1:Hid (Q.all (·.oneCell')=true):=A0 DK
     have HQd:Hid (∀i,i<10->Q[i]? =some (.string ((Ea.rowB u).getD i ByteArray.empty))):=A0 (fun i hi=>by rw[<-hQ];simp only[SI,J2];rw[M0 UX,U0,M0 UX];rfl)
     have HRL:=A0 hRl
     rw[hQ]at HDR
     clear hu hQ hRl
     go_wp2_with fail
     refine(HDR.out _).mono ?_
     rintro e w4 ⟨rfl,hx4⟩
     have hst:=VW Q hQs HQ1.out w4
     have HNC:=A0 (fun i hi=>H7 Q 210 w4 (HQd.out i hi))
     go_wp2_with fail
     obtain⟨w5,hw5⟩:∃w5,w4.alloc (.cells Q 210)=w5:=⟨_,rfl⟩
     have hsz:w4.heap.size<w5.heap.size:=by rw[<-hw5];simp
     have hx5:Ext w w5:=by rw[<-hw5];exact(hxr.trans hx4).alloc _
     rw[hw5]at HNC⊢
     have HIX:=A0 (fun(x:Zx w5)=>Tryz.slices_Index_string w4.heap.size 0 10 10 (Ea.rowB u) (S.extract 0 7) x.at' RZ B0 (fun i hi=>by rw[T4,x.ext.cell (p:=⟨w4.heap.size,i,none⟩) hsz];exact HNC.out i DL))
     rw[HP7.out,show(Ea.rowB u).take 10=Ea.rowB u from X1 RZ,HRI.out,<-HP7.out]at HIX
     clear hst hw5 HNC HRI
     cases hlk:Ea.lookT u m with
     |none=>rw[hlk]at HIX;simp only[Ea.plcO]at HIX;have HSN:Hid (scan (A.take (j+1)) m=scan (A.take j) m):=A0 (by rw[HTK.out,rZ,hlk]);clear hlk HLT hau HTK;refine D6 (C:=fun w'=>∃x:Zx w5,w'=x.at') G0 G0 (Zx.drawn _) ?_;(try dsimp only);(repeat(first|go_big_quiet_step ((go_at_call 252;with_reducible exact Zu ((HIX.out _).mono fun _ _ h=>⟨h.1,h.2▸Ext.refl _⟩)))|quiet_step ((go_at_call 252;with_reducible exact Zu ((HIX.out _).mono fun _ _ h=>⟨h.1,h.2▸Ext.refl _⟩)))));refine E6 ?_;intro _ hx0;obtain⟨x0,hx0⟩:=hx0;subst hx0;obtain⟨w8,hx8⟩:=x0;(try dsimp only);go_wp2;go_roundw;(case rel=>exact⟨j+1,by omega,by go_num,by rw[HSN.out],by rw[HSN.out],hx5.trans hx8⟩);case measure=>exact Q8
     |some d=>have hd10:=HLT.out d hlk;rw[hlk]at HIX;simp only[Ea.plcO]at HIX;have HSN:Hid (scan (A.take (j+1)) m=some (d,u)):=A0 (by rw[HTK.out,rZ,hlk]);clear hlk HLT HTK;refine D6 (C:=fun w'=>∃x:Zx w5,w'=x.at') G0 G0 (Zx.drawn _) ?_;(try dsimp only);(repeat(first|go_big_quiet_step ((go_at_call 252;with_reducible exact Zu ((HIX.out _).mono fun _ _ h=>⟨h.1,h.2▸Ext.refl _⟩)))|quiet_step ((go_at_call 252;with_reducible exact Zu ((HIX.out _).mono fun _ _ h=>⟨h.1,h.2▸Ext.refl _⟩)))));refine E6 ?_;intro _ hx0;obtain⟨x0,hx0⟩:=hx0;subst hx0;obtain⟨w8,hx8⟩:=x0;(try dsimp only);go_wp2;go_quiet (fail);go_wp2;go_roundw;(case rel=>exact⟨j+1,by omega,by go_num,by rw[HSN.out];rfl,by rw[HSN.out];rfl,(hx5.trans hx8).drewN _⟩);case measure=>exact Q8
    ·obtain rfl:j=al.size:=by omega
     rw[show A.take al.size=A by rw[HASZ.out,J5]]at*
     rw[HSC.out]at*
     have HRC:=A0 (fun d u (h:Ea.look both t m=some (d,u))=>Znm HA3.out (by rw[HSC.out];exact h))
     obtain⟨q,hq⟩:∃q,n-k=q+1:=⟨n-k-1,by omega⟩
     rw[hq]at HSO
     clear hj hja
     cases hlk:Ea.look both t m with
     |none=>have HRN:Hid (R=none):=A0 (by rw[HSO.out,Ea.rcg_none (by rw[hm];exact hlk)];rfl);simp only[scD,scT];clear hlk hm hq;go_wp2;go_ret3;exact⟨by rw[HRN.out];rfl,hxr⟩
     |some p=>obtain⟨d,u⟩:=p;obtain⟨hd10,hu3⟩:=HRC.out d u hlk;simp only[scD,scT];have HSO2:Hid (R=Ea.sofar (Ea.rcg both t 0 (n-(k+1)) (sl.drop (7*(k+1)))) (ds++[Ea.chr d]) (us++[u])):=A0 (by rw[HSO.out,Ea.rcg_some (by rw[hm];exact hlk),show n-(k+1)=q by omega,W5,show 7*k+(7+0)=7*(k+1) by omega]);have hc1:(Utf8.encode (48+(d:Int))).data.toList=[Ea.chr d]:=aA;have hc2:(Utf8.encode (65+(u:Int))).data.toList=[Ea.cS u]:=(by rw[show(65+(u:Int))=((65+u:Nat):Int) by omega];exact LC (65+u) B0);have hz1:(Utf8.encode (48+(d:Int))).size=1:=Zf hc1;have hz2:(Utf8.encode (65+(u:Int))).size=1:=Zf hc2;obtain⟨CD,hCD⟩:∃CD,Utf8.encode (48+(d:Int))=CD:=⟨_,rfl⟩;obtain⟨CT,hCT⟩:∃CT,Utf8.encode (65+(u:Int))=CT:=⟨_,rfl⟩;rw[hCD]at hc1 hz1;rw[hCT]at hc2 hz2;(have hr1:∀w,(convert 21 9 (.int .i32 (48+(d:Int)))).run prog w=.ok (.string CD) w:=fun w=>by rw[<-hCD];exact PC w _ _ _ _ G0 underlying9);(have hr2:∀w,(convert 21 9 (.int .i32 (65+(u:Int)))).run prog w=.ok (.string CT) w:=fun w=>by rw[<-hCT];exact PC w _ _ _ _ G0 underlying9);have HD2:Hid ((D++CD:ByteArray).data.toList=ds++[Ea.chr d]):=A0 (by rw[Y3,F4,HD.out,hc1]);have HT2:Hid ((T++CT:ByteArray).data.toList=Ea.sS (us++[u])):=A0 (by rw[Y3,F4,HT.out,Ea.sS_app,hc2];rfl);have HS2:Hid ((S.extract 7 S.size).data.toList=Ea.mS (sl.drop (7*(k+1)))):=A0 (by rw[ZD,HS.out,Ea.mS_drop,W5,show 7*k+7=7*(k+1) by omega]);have hDle:D.size<=12:=B0;have hTle:T.size<=12:=B0;have HDZ:Hid (D.size=k∧T.size=k):=A0 ⟨hDs,hTs⟩;clear hlk hm hq hc1 hc2 hDs hTs hCD hCT;go_wp2;go_roundw;(case rel=>exact⟨k+1,_,_,_,_,_,by omega,rfl,rfl,rfl,HS2,HD2,HT2,by rw[WF,hz1,HDZ.out.1],by rw[WF,hz2,HDZ.out.2],HSO2,hxr⟩);case measure=>exact S0
  ·obtain rfl:k=n:=B0;have HRE:Hid (R=some (ds,us)):=A0 (by rw[HSO.out,I4];exact Ea.sofar_end ds us);have hS0:S.toList=[]:=(by rw[C2];exact L4 (by rw[Zd,hSs,I4]));have hS1:S.toList.isEmpty=true:=(by rw[hS0];rfl);have HE:Hid (Value.string D=.string (Ea.bS ds)∧Value.string T=.string (Ea.bS (Ea.sS us))):=A0 (by rw[<-HD.out,<-HT.out,Ea.bS_of,Ea.bS_of];exact⟨rfl,rfl⟩);clear hlt hk hSs;go_wp2;go_ret3;exact⟨by rw[HRE.out];simp only[recV];rw[<-HE.out.1,<-HE.out.2];rfl,hxr⟩
end Go.Proofs.YtbngggoccndefaaGreatDoor
namespace Go.Proofs.YtbngggoccndefaaGreatDoor
open Go.Proofs.Tryz
open Go.RowKit
theorem PD (both:Bool) (t:Nat):∀(n:Nat) (s:List Bool),Ea.rcg both t 0 n (s.take (7*n))=Ea.rcg both t 0 n s:=by
 intro n
 induction n with
 |zero=>intro s;rfl
 |succ n ih=>intro s;have e:7*(n+1)=7+7*n:=B0;rw[Ea.rcg,Ea.rcg,UC,show min 7 (7*(n+1))=7 by omega];have e2:(s.take (7*(n+1))).drop (7+0)=(s.drop (7+0)).take (7*n):=(by rw[RE];congr 1);rw[e2,ih]
theorem LD {both:Bool} {t gap:Nat}:∀ {n:Nat} {s:List Bool} {l:List UInt8} {u:List Nat},Ea.rcg both t gap n s=some (l,u)->l.length=n:=by
 intro n
 induction n with
 |zero=>intro s l u h;cases h;rfl
 |succ n ih=>
  intro s l u h
  rw[Ea.rcg]at h
  cases h1:Ea.look both t (s.take 7)with
  |none=>rw[h1]at h;cases h
  |some p=>
   rw[h1]at h
   dsimp only at h
   cases h2:Ea.rcg both t gap n (s.drop (7+gap))with
   |none=>rw[h2]at h;cases h
   |some q=>rw[h2]at h;cases h;simp[ih h2]
theorem hasP (s p:ByteArray) (pl sl:List Bool) (hs:s.data.toList=Ea.mS sl) (hp:p.data.toList=Ea.mS pl) (w:World):Calls prog 177 #[.string s,.string p] w fun e w'=>e=.returned (.bool (decide (sl.take pl.length=pl)))∧w=w':=by refine(Tryz.strings_HasPrefix s p w).mono ?_;rintro e w' ⟨rfl,rfl⟩;exact⟨by rw[hs,hp,Ea.mS_prefix],rfl⟩
theorem hasS (s p:ByteArray) (pl sl:List Bool) (hs:s.data.toList=Ea.mS sl) (hp:p.data.toList=Ea.mS pl) (hl:pl.length<=sl.length) (hz:s.size<=9223372036854775807) (w:World):Calls prog 253 #[.string s,.string p] w fun e w'=>e=.returned (.bool (decide (sl.drop (sl.length-pl.length)=pl)))∧w=w':=by refine(Tryz.strings_HasSuffix s p w hz).mono ?_;rintro e w' ⟨rfl,rfl⟩;exact⟨by rw[hs,hp,Ea.mS_suffix _ _ hl],rfl⟩
def halv (both:Bool) (t n:Nat) (sl:List Bool):(List UInt8×List Nat)×Int:=
 if sl.take 3≠Ea.gd then(([],[]),19)
 else if sl.drop (sl.length-3)≠Ea.gd then(([],[]),20)
 else match Ea.rcg both t 0 n (sl.drop 3),Ea.rcg false 2 0 n (sl.drop (7*n+8))with
  |some (l,u),some (r,_)=>if(sl.drop (7*n+3)).take 5=Ea.md then((l++r,u),0)else(([],[]),18)
  |_,_=>(([],[]),18)
def halV (r:(List UInt8×List Nat)×Int):Value:=.tuple #[.string (Ea.bS r.1.1),.string (Ea.bS (Ea.sS r.1.2)),.int .i64 r.2]
theorem Zhn (s:ByteArray) (sl:List Bool) (hs:s.data.toList=Ea.mS sl) (hW:sl.length=95) (w:World):
 Calls prog 251 #[.string s,.int .i64 6,.string ⟨#[65,66]⟩] w fun e w'=>e=.returned (halV (halv true 0 6 sl))∧Ext w w':=by
 have hsz:s.size=95:=DM
 have HX:=A0 (halv.eq_1 true 0 6 sl)
 rw[hW]at HX
 have HP:=A0 (fun w=>hasP s ⟨#[49,48,49]⟩ Ea.gd sl hs rfl w)
 have HQ:=A0 (fun w=>hasS s ⟨#[49,48,49]⟩ Ea.gd sl hs rfl (by rw[hW];decide) B0 w)
 rw[show Ea.gd.length=3 from rfl]at HP HQ
 rw[hW]at HQ
 obtain⟨J,hJ⟩:∃J,s.extract 3 92=J:=⟨_,rfl⟩
 have hJl:J.data.toList=Ea.mS ((sl.drop 3).take 89):=DN
 have hJs:J.size=89:=aB
 have HJ:=A0 hJ
 have c1:(J.extract 0 42).data.toList=Ea.mS ((sl.drop 3).take 42):=by rw[Zy,hJl,Ea.mS_take,UC];rfl
 have c2:(J.extract 47 89).data.toList=Ea.mS ((sl.drop 50).take 42):=LE
 have c3:(J.extract 42 47).data.toList=Ea.mS ((sl.drop 45).take 5):=LE
 have HL:=A0 (UW true 0 6 ((sl.drop 3).take 42) (J.extract 0 42) ⟨#[65,66]⟩ c1 PE B0 B0 (fun _=>rfl) rfl)
 have HR:=A0 (UW false 2 6 ((sl.drop 50).take 42) (J.extract 47 89) ⟨#[67]⟩ c2 PE B0 B0 (fun h=>by cases h) rfl)
 rw[PD true 0 6 (sl.drop 3)]at HL
 rw[PD false 2 6 (sl.drop 50)]at HR
 have HM:Hid (((J.extract 42 47).toList== [48,49,48,49,48])=decide ((sl.drop 45).take 5=Ea.md)):=A0 aC
 clear hs hW c1 c2 c3 hJl
 by_cases g1:sl.take 3=Ea.gd
 ·rw[C0 (fun h=>h g1)]at HX;rw[V0 g1]at HP;clear g1;by_cases g2:sl.drop 92=Ea.gd
  ·rw[C0 (fun h=>h g2)]at HX
   rw[V0 g2]at HQ
   clear g2
   cases h1:Ea.rcg true 0 0 6 (sl.drop 3)with
   |none=>
    rw[h1]at HX HL
    have HN:Hid (halv true 0 6 sl=(([],[]),18)):=A0 (by rw[HX.out])
    clear HX
    generalize halv true 0 6 sl=res at*
    cases h2:Ea.rcg false 2 0 6 (sl.drop 50)with
    |none=>rw[h2]at HR;exact QT
    |some q=>obtain⟨r,v⟩:=q;rw[h2]at HR;exact QT
   |some p=>
    obtain⟨l,u⟩:=p
    cases h2:Ea.rcg false 2 0 6 (sl.drop 50)with
    |none=>rw[h1]at HX HL;rw[h2]at HX HR;have HN:Hid (halv true 0 6 sl=(([],[]),18)):=A0 (by rw[HX.out]);clear HX;generalize halv true 0 6 sl=res at*;exact QT
    |some q=>obtain⟨r,v⟩:=q;have hl:=LD h1;have hr:=LD h2;rw[h1]at HX HL;rw[h2]at HX HR;have bl:(Ea.bS l).size=6:=(by rw[Zf (Ea.bS_list l),hl]);have br:(Ea.bS r).size=6:=(by rw[Zf (Ea.bS_list r),hr]);have HAP:Hid (Ea.bS l++Ea.bS r=Ea.bS (l++r)):=A0 (Zl DI);simp only[recV]at HL HR;cases hm:((J.extract 42 47).toList== [48,49,48,49,48]);(·have hmm:=HM.out;rw[hm]at hmm;have HN:Hid (halv true 0 6 sl=(([],[]),18)):=A0 aD;clear HX hmm;generalize halv true 0 6 sl=res at*;subst hJ;clear h1 h2 HM hl hr;exact Qs);·have hmm:=HM.out;rw[hm]at hmm;have HN:Hid (halv true 0 6 sl=((l++r,u),0)):=A0 aE;clear HX hmm;generalize halv true 0 6 sl=res at*;exact aF
  ·rw[D0 g2]at HX;rw[X0 g2]at HQ;generalize halv true 0 6 sl=res at*;exact aG
 ·rw[D0 g1]at HX;rw[X0 g1]at HP;generalize halv true 0 6 sl=res at*;exact aH
theorem Zgu (s:ByteArray) (sl:List Bool) (hs:s.data.toList=Ea.mS sl) (hW:sl.length=67) (w:World):
 Calls prog 251 #[.string s,.int .i64 4,.string ⟨#[65]⟩] w fun e w'=>e=.returned (halV (halv false 0 4 sl))∧Ext w w':=by
 have hsz:s.size=67:=DM
 have HX:=A0 (halv.eq_1 false 0 4 sl)
 rw[hW]at HX
 have HP:=A0 (fun w=>hasP s ⟨#[49,48,49]⟩ Ea.gd sl hs rfl w)
 have HQ:=A0 (fun w=>hasS s ⟨#[49,48,49]⟩ Ea.gd sl hs rfl (by rw[hW];decide) B0 w)
 rw[show Ea.gd.length=3 from rfl]at HP HQ
 rw[hW]at HQ
 obtain⟨J,hJ⟩:∃J,s.extract 3 64=J:=⟨_,rfl⟩
 have hJl:J.data.toList=Ea.mS ((sl.drop 3).take 61):=DN
 have hJs:J.size=61:=aB
 have HJ:=A0 hJ
 have c1:(J.extract 0 28).data.toList=Ea.mS ((sl.drop 3).take 28):=by rw[Zy,hJl,Ea.mS_take,UC];rfl
 have c2:(J.extract 33 61).data.toList=Ea.mS ((sl.drop 36).take 28):=LE
 have c3:(J.extract 28 33).data.toList=Ea.mS ((sl.drop 31).take 5):=LE
 have HL:=A0 (UW false 0 4 ((sl.drop 3).take 28) (J.extract 0 28) ⟨#[65]⟩ c1 PE B0 B0 (fun _=>rfl) rfl)
 have HR:=A0 (UW false 2 4 ((sl.drop 36).take 28) (J.extract 33 61) ⟨#[67]⟩ c2 PE B0 B0 (fun h=>by cases h) rfl)
 rw[PD false 0 4 (sl.drop 3)]at HL
 rw[PD false 2 4 (sl.drop 36)]at HR
 have HM:Hid (((J.extract 28 33).toList== [48,49,48,49,48])=decide ((sl.drop 31).take 5=Ea.md)):=A0 aC
 clear hs hW c1 c2 c3 hJl
 by_cases g1:sl.take 3=Ea.gd
 ·rw[C0 (fun h=>h g1)]at HX;rw[V0 g1]at HP;clear g1;by_cases g2:sl.drop 64=Ea.gd
  ·rw[C0 (fun h=>h g2)]at HX
   rw[V0 g2]at HQ
   clear g2
   cases h1:Ea.rcg false 0 0 4 (sl.drop 3)with
   |none=>
    rw[h1]at HX HL
    have HN:Hid (halv false 0 4 sl=(([],[]),18)):=A0 (by rw[HX.out])
    clear HX
    generalize halv false 0 4 sl=res at*
    cases h2:Ea.rcg false 2 0 4 (sl.drop 36)with
    |none=>rw[h2]at HR;exact QS
    |some q=>obtain⟨r,v⟩:=q;rw[h2]at HR;exact QS
   |some p=>
    obtain⟨l,u⟩:=p
    cases h2:Ea.rcg false 2 0 4 (sl.drop 36)with
    |none=>rw[h1]at HX HL;rw[h2]at HX HR;have HN:Hid (halv false 0 4 sl=(([],[]),18)):=A0 (by rw[HX.out]);clear HX;generalize halv false 0 4 sl=res at*;exact QS
    |some q=>obtain⟨r,v⟩:=q;have hl:=LD h1;have hr:=LD h2;rw[h1]at HX HL;rw[h2]at HX HR;have bl:(Ea.bS l).size=4:=(by rw[Zf (Ea.bS_list l),hl]);have br:(Ea.bS r).size=4:=(by rw[Zf (Ea.bS_list r),hr]);have HAP:Hid (Ea.bS l++Ea.bS r=Ea.bS (l++r)):=A0 (Zl DI);simp only[recV]at HL HR;cases hm:((J.extract 28 33).toList== [48,49,48,49,48]);(·have hmm:=HM.out;rw[hm]at hmm;have HN:Hid (halv false 0 4 sl=(([],[]),18)):=A0 aD;clear HX hmm;generalize halv false 0 4 sl=res at*;subst hJ;clear h1 h2 HM hl hr;exact Qs);·have hmm:=HM.out;rw[hm]at hmm;have HN:Hid (halv false 0 4 sl=((l++r,u),0)):=A0 aE;clear HX hmm;generalize halv false 0 4 sl=res at*;exact aF
  ·rw[D0 g2]at HX;rw[X0 g2]at HQ;generalize halv false 0 4 sl=res at*;exact aG
 ·rw[D0 g1]at HX;rw[X0 g1]at HP;generalize halv false 0 4 sl=res at*;exact aH
end Go.Proofs.YtbngggoccndefaaGreatDoor
namespace Go.Proofs.YtbngggoccndefaaGreatDoor
open Go.Proofs.Tryz
open Go.RowKit
def linV (k:Int) (t a:List UInt8):Value:=.agg #[.int .i64 k,.string (Ea.bS t),.string (Ea.bS a)]
def symV (r:(Int×List UInt8)×Int):Value:=.tuple #[linV r.1.1 r.1.2 [],.int .i64 r.2]
theorem LF {both:Bool} {n:Nat} {sl:List Bool} {l:List UInt8} {u:List Nat} (h:halv both 0 n sl=((l,u),0)) (hl:14*n+8<=sl.length):Ea.digs l=true∧l.length=2*n∧(∀x∈u,x<3)∧u.length=n:=by
 unfold halv at h
 split at h
 ·cases h
 split at h
 ·cases h
 cases h1:Ea.rcg both 0 0 n (sl.drop 3)with
 |none=>rw[h1]at h;cases h
 |some p=>
  obtain⟨l1,u1⟩:=p
  cases h2:Ea.rcg false 2 0 n (sl.drop (7*n+8))with
  |none=>rw[h1,h2]at h;cases h
  |some q=>obtain⟨l2,u2⟩:=q;rw[h1,h2]at h;dsimp only at h;split at h;(·cases h;obtain⟨_,a2,a3,a4,a5⟩:=Ea.rcg_inv both 0 B0 n _ _ _ h1 C8;obtain⟨_,b2,b3,b4,b5⟩:=Ea.rcg_inv false 2 B0 n _ _ _ h2 C8;exact⟨by rw[Ea.digs_app];exact⟨a4,b4⟩,by rw[T0,a2,b2];omega,fun x hx=>Ea.may_lt B0 (a5 x hx),a3⟩);·cases h
theorem DO {k:Int} {l:List UInt8} (h1:Ea.size k≠0) (h2:Ea.digs l=true) (h3:l.length=Ea.size k) (h4:k=4->l.getD 0 0<=49):Ea.full k l=if Ea.good (if k=4 then Ea.exp8 l else l)then 0 else 8:=by rw[rF,C0 h1,C0 (by rw[h2];simp),C0 (fun h=>h h3),C0 (fun h=>h.2 (h4 h.1))]
def J9 (h:(List UInt8×List Nat)×Int):(Int×List UInt8)×Int:=
 if h.2≠0 then((0,[]),h.2)else match Ea.find13 h.1.2 with
  |none=>((0,[]),18)
  |some d=>if Ea.good (Ea.chr d::h.1.1)then(if d=0 then((3,h.1.1),0)else((1,Ea.chr d::h.1.1),0))else((0,[]),8)
theorem aI {d:Nat} (hd:d<10):Ea.chr d=48↔d=0:=by
 have:∀d:Fin 10,Ea.chr d=48↔d.1=0:=by decide
 exact this ⟨d,hd⟩
theorem PF {d:Nat} (hd:d<10):48<=(Ea.chr d).toNat∧(Ea.chr d).toNat<=57:=by unfold Ea.chr;rw[Ea.chr_nat hd];omega
theorem UY {both:Bool} {t n:Nat} {sl:List Bool} (g1:sl.take 3=Ea.gd) (g2:sl.drop (sl.length-3)=Ea.gd) (h:Ea.rcg both t 0 n (sl.drop 3)=none∨Ea.rcg false 2 0 n (sl.drop (7*n+8))=none∨(sl.drop (7*n+3)).take 5≠Ea.md):halv both t n sl=(([],[]),18):=by
 unfold halv
 rw[C0 (fun h=>h g1),C0 (fun h=>h g2)]
 cases h1:Ea.rcg both t 0 n (sl.drop 3)with
 |none=>rfl
 |some p=>
  cases h2:Ea.rcg false 2 0 n (sl.drop (7*n+8))with
  |none=>rfl
  |some q=>rw[h1,h2]at h;exact C0 (h.resolve_left L0 |>.resolve_left L0)
theorem aJ {both:Bool} {t n:Nat} {sl:List Bool} {l r:List UInt8} {u v:List Nat} (g1:sl.take 3=Ea.gd) (g2:sl.drop (sl.length-3)=Ea.gd) (h1:Ea.rcg both t 0 n (sl.drop 3)=some (l,u)) (h2:Ea.rcg false 2 0 n (sl.drop (7*n+8))=some (r,v)) (hm:(sl.drop (7*n+3)).take 5=Ea.md):halv both t n sl=((l++r,u),0):=by unfold halv;rw[C0 (fun h=>h g1),C0 (fun h=>h g2),h1,h2];exact D0 hm
theorem ZmK (sl:List Bool) (hW:sl.length=95):Ea.rdSym 95 sl=J9 (halv true 0 6 sl):=by
 unfold Ea.rdSym;rw[show 95-(Ea.stp 95).length=sl.length-3 by rw[hW];rfl,show Ea.stp 95=Ea.gd from rfl];by_cases g1:sl.take 3=Ea.gd
 ·by_cases g2:sl.drop (sl.length-3)=Ea.gd
  ·rw[C0 (fun h=>h g1),C0 (fun h=>h g2)]
   rw[show Ea.rdK 95 sl=Ea.rd13 sl from rfl]
   unfold Ea.rd13
   cases h1:Ea.rcg true 0 0 6 (sl.drop 3)with
   |none=>rw[UY g1 g2 (.inl h1)];rfl
   |some p=>
    obtain⟨l,u⟩:=p
    cases h2:Ea.rcg false 2 0 6 (sl.drop 50)with
    |none=>rw[UY g1 g2 (.inr (.inl h2))];rfl
    |some q=>
     obtain⟨r,v⟩:=q;dsimp only;by_cases hm:(sl.drop 45).take 5=Ea.md
     ·have hh:=aJ g1 g2 h1 h2 hm
      obtain⟨k1,k2,k3,k4⟩:=LF hh B0
      rw[D0 hm,hh]
      unfold J9
      rw[C0 L0]
      dsimp only
      cases hf:Ea.find13 u with
      |none=>rfl
      |some d=>obtain⟨f1,_⟩:=Ea.find13_some hf;rw[YF];dsimp only;have hfull:=DO (k:=1) (l:=Ea.chr d::(l++r)) I0 (Ea.digs_cons (PF f1) k1) (by rw[D1,k2];rfl) (fun e=>by cases e);rw[C0 (show¬(1:Int)=4 by decide)]at hfull;rw[show Ea.kindOf 95=1 from rfl,hfull];by_cases hg:Ea.good (Ea.chr d::(l++r));(·rw[D0 hg,D0 hg,C0 L0];by_cases h0:d=0;(·rw[D0 h0,D0 ⟨rfl,by rw[TZ];exact(aI f1).2 h0⟩];rfl);·rw[C0 h0,C0 (fun h=>h0 ((aI f1).1 (by rw[TZ]at h;exact h.2)))]);·exact DP
     ·rw[UY g1 g2 (.inr (.inr hm)),C0 hm];rfl
  ·have hh:halv true 0 6 sl=(([],[]),20):=aK;rw[C0 (fun h=>h g1),D0 g2,hh];rfl
 ·have hh:halv true 0 6 sl=(([],[]),19):=(by unfold halv;rw[D0 g1]);rw[D0 g1,hh];rfl
def YV (h:(List UInt8×List Nat)×Int):(Int×List UInt8)×Int:=
 if h.2≠0 then((0,[]),h.2)else if Ea.good h.1.1 then((2,h.1.1),0)else((0,[]),8)
theorem ZlO (sl:List Bool) (hW:sl.length=67):Ea.rdSym 67 sl=YV (halv false 0 4 sl):=by
 unfold Ea.rdSym;rw[show 67-(Ea.stp 67).length=sl.length-3 by rw[hW];rfl,show Ea.stp 67=Ea.gd from rfl];by_cases g1:sl.take 3=Ea.gd
 ·by_cases g2:sl.drop (sl.length-3)=Ea.gd
  ·rw[C0 (fun h=>h g1),C0 (fun h=>h g2)]
   rw[show Ea.rdK 67 sl=Ea.rd8 sl from rfl]
   unfold Ea.rd8
   cases h1:Ea.rcg false 0 0 4 (sl.drop 3)with
   |none=>rw[UY g1 g2 (.inl h1)];rfl
   |some p=>
    obtain⟨l,u⟩:=p
    cases h2:Ea.rcg false 2 0 4 (sl.drop 36)with
    |none=>rw[UY g1 g2 (.inr (.inl h2))];rfl
    |some q=>obtain⟨r,v⟩:=q;dsimp only;by_cases hm:(sl.drop 31).take 5=Ea.md;(·have hh:=aJ g1 g2 h1 h2 hm;obtain⟨k1,k2,k3,k4⟩:=LF hh B0;rw[D0 hm,hh];unfold YV;rw[C0 L0];dsimp only;have hfull:=DO (k:=2) (l:=l++r) I0 k1 (by rw[k2];rfl) (fun e=>by cases e);rw[C0 (show¬(2:Int)=4 by decide)]at hfull;rw[show Ea.kindOf 67=2 from rfl,hfull];by_cases hg:Ea.good (l++r);(·exact aL);·exact DP);·rw[UY g1 g2 (.inr (.inr hm)),C0 hm];rfl
  ·have hh:halv false 0 4 sl=(([],[]),20):=aK;rw[C0 (fun h=>h g1),D0 g2,hh];rfl
 ·have hh:halv false 0 4 sl=(([],[]),19):=(by unfold halv;rw[D0 g1]);rw[D0 g1,hh];rfl
end Go.Proofs.YtbngggoccndefaaGreatDoor
namespace Go.Proofs.YtbngggoccndefaaGreatDoor
open Go.Proofs.Tryz
open Go.RowKit
theorem X5 {w w':World} {x y z:Value} {t:TypeId} (h:Ext (w.alloc (.cells #[x,y,z] t)) w'):
 w.heap.size<w'.heap.size∧w'.cell? ⟨w.heap.size,0,none⟩=some x∧w'.cell? ⟨w.heap.size,1,none⟩=some y∧w'.cell? ⟨w.heap.size,2,none⟩=some z∧
  w'.frozen? ⟨w.heap.size,0,none⟩=false∧w'.frozen? ⟨w.heap.size,1,none⟩=false∧w'.frozen? ⟨w.heap.size,2,none⟩=false∧
  Hid (w'.heap[w.heap.size]? =some (.cells #[x,y,z] t (0,0))):=by
 have hs:=h.size
 have hlt:w.heap.size<(w.alloc (.cells #[x,y,z] t)).heap.size:=by simp
 have hb:w'.heap[w.heap.size]? =some (.cells #[x,y,z] t (0,0)):=by rw[h.block _ hlt];exact OM
 exact⟨by omega,Zw hb rfl,Zw hb rfl,Zw hb rfl,ZG hb,ZG hb,ZG hb,A0 hb⟩
theorem Zk {w:World} {b:Nat} {x y z p q r:Value} {t:TypeId} (h:Hid (w.heap[b]? =some (.cells #[x,y,z] t (0,0)))):
 (((w.setCell ⟨b,0,none⟩ p).setCell ⟨b,1,none⟩ q).setCell ⟨b,2,none⟩ r).heap[b]? =some (.cells #[p,q,r] t (0,0)):=
 Zp (Zp (Zp h.out))
theorem Zi {fn:Func} {p u:Tmp} (h:fn.results= #[.cell p 33,.tmp u]) {tmps:Array Value} {w:World} {g:Nat} {t:TypeId} {x y z e:Value}
 (hp:tmps.getD p undef=.pointer (some ⟨g,0,none⟩)) (hg:w.heap[g]? =some (.cells #[x,y,z] t (0,0))) (he:tmps.getD u undef=e):
 (results fn tmps).run prog w=.ok (.tuple #[.agg #[x,y,z],e]) w:=by
 rw[results_cell_tmp h,hp,he]
 simp only[asAddr,SE,SF]
 rw[LG w g t _ #[x,y,z] (0,0) _ hg underlying33 rfl G0]
 rfl
theorem Ext.before {w w':World} {o:Obj} (h:Ext (w.alloc o) w'):Ext w w':=((Ext.refl w).alloc o).trans h
theorem ZfK (s:ByteArray) (sl:List Bool) (hs:s.data.toList=Ea.mS sl) (hW:sl.length=67) (w:World):
 Calls prog 213 #[.string s] w fun e w'=>e=.returned (symV (Ea.rdSym 67 sl))∧Ext w w':=by
 have HH:=A0 (fun w=>Zgu s sl hs hW w)
 rw[ZlO sl hW]
 obtain⟨⟨⟨l,u⟩,er⟩,hh⟩:∃r,halv false 0 4 sl=r:=⟨_,rfl⟩
 rw[hh]at HH⊢
 simp only[halV]at HH
 have hk:er=0->Ea.digs l=true∧l.length=2*4:=fun h0=>by subst h0;obtain⟨a,b,_⟩:=LF hh B0;exact⟨a,b⟩
 clear hs hW hh
 by_cases h0:er=0
 ·subst h0;obtain⟨hd,hl⟩:=hk rfl;have hR:=fun w=>RR 2 (Ea.bS l) hd (.inr ⟨by decide,by rw[Zf (Ea.bS_list l)];omega,by rw[Zf (Ea.bS_list l)];omega⟩) w;rw[C0 (show¬(2:Int)=4 by decide),Ea.bS_list]at hR;have HR:=A0 hR;clear hR hk hd hl;by_cases hg:Ea.good l;(·rw[V0 hg]at HR;have HG:Hid (YV ((l,u),0)=((2,l),0)):=A0 (by unfold YV;rw[C0 L0,D0 hg]);exact aM);·rw[X0 hg]at HR;have HG:Hid (YV ((l,u),0)=((0,[]),8)):=A0 (by unfold YV;rw[C0 L0,C0 hg]);exact aM
 ·have HG:Hid (YV ((l,u),er)=((0,[]),er)):=A0 (by unfold YV;rw[D0 h0]);rw[HG.out];clear HG hk;unfold symV linV;dsimp only;generalize Ea.bS l=L at*;generalize Ea.bS (Ea.sS u)=U at*;have hb:(er !=0)=true:=C3.2 h0;go_enter func213,ntmps213;go_wp2_with fail;refine(HH.out _).mono ?_;rintro e w2 ⟨rfl,hx⟩;obtain⟨z0,z1,z2,z3,z4,z5,z6,HB⟩:=X5 hx;have hxw:=hx.before;clear hx;go_wp2;refine E1 (Zi results213 rfl (Zk HB) rfl) rfl ?_;exact G8
end Go.Proofs.YtbngggoccndefaaGreatDoor
namespace Go.Proofs.YtbngggoccndefaaGreatDoor
open Go.Proofs.Tryz
open Go.RowKit
theorem PG {w:World} {b g:Nat} {o:Option Obj} {p q r:Value} (hne:b≠g) (h:Hid (w.heap[g]? =o)):
 Hid ((((w.setCell ⟨b,0,none⟩ p).setCell ⟨b,1,none⟩ q).setCell ⟨b,2,none⟩ r).heap[g]? =o):=by
 have e:∀(w:World) (i:Nat) (u:Value),(w.setCell ⟨b,i,none⟩ u).heap[g]? =w.heap[g]? :=fun w i u=>by simp[World.setCell,VY,hne]
 exact A0 (by rw[e,e,e];exact h.out)
theorem ZgH (s:ByteArray) (sl:List Bool) (hs:s.data.toList=Ea.mS sl) (hW:sl.length=95) (w:World):
 Calls prog 212 #[.string s] w fun e w'=>e=.returned (symV (Ea.rdSym 95 sl))∧Ext w w':=by
 have HH:=A0 (fun w=>Zhn s sl hs hW w)
 rw[ZmK sl hW]
 obtain⟨⟨⟨l,u⟩,er⟩,hh⟩:∃r,halv true 0 6 sl=r:=⟨_,rfl⟩
 rw[hh]at HH⊢
 simp only[halV]at HH
 have hk:er=0->Ea.digs l=true∧l.length=2*6∧∀x∈u,x<3:=fun h0=>by subst h0;obtain⟨a,b,c,_⟩:=LF hh B0;exact⟨a,b,c⟩
 clear hs hW hh
 by_cases h0:er=0
 ·subst h0
  obtain⟨hd,hl,hu⟩:=hk rfl
  have HLI:=A0 (Ea.left_idx u hu)
  have hLs:(Ea.bS l).size<=12:=by rw[Zf (Ea.bS_list l)];omega
  have HLD:=A0 (And.intro hd hl)
  have HPL:Hid (∀d,Ea.find13 u=some d->d<10):=A0 (fun d h=>(Ea.find13_some h).1)
  obtain⟨Q,hQ⟩:∃Q,(Ea.leftB.map Value.string).toArray=Q:=⟨_,rfl⟩
  have hRl:Ea.leftB.length=10:=rfl
  have hQs:Q.size=10:=by rw[<-hQ];simp[hRl]
  have HQ1:Hid (Q.all (·.oneCell')=true):=A0 DK
  have HQd:Hid (∀i,i<10->Q[i]? =some (.string (Ea.leftB.getD i ByteArray.empty))):=A0 (fun i hi=>by rw[<-hQ];simp only[SI,J2];rw[M0 UX,U0,M0 UX];rfl)
  have HRL:=A0 hRl
  have HDR:=A0 (fun w=>gN w)
  unfold arrV at HDR
  rw[hQ]at HDR
  clear hk hQ hRl hu hd hl
  obtain⟨res,hres⟩:∃res,J9 ((l,u),0)=res:=⟨_,rfl⟩
  rw[hres]
  have HRS:=A0 hres
  clear hres
  obtain⟨L,hL⟩:∃L,Ea.bS l=L:=⟨_,rfl⟩
  have HL:=A0 hL
  obtain⟨U,hU⟩:∃U,Ea.bS (Ea.sS u)=U:=⟨_,rfl⟩
  rw[hL]at HH hLs
  rw[hU]at HH HLI
  clear hL hU
  go_enter func212,ntmps212
  go_wp2_with fail
  refine(HH.out _).mono ?_
  rintro e w1 ⟨rfl,hx1⟩
  go_wp2_with fail
  refine(HDR.out _).mono ?_
  rintro e w4 ⟨rfl,hx4⟩
  have hst:=VW Q hQs HQ1.out w4
  have HNC:=A0 (fun i hi=>H7 Q 210 w4 (HQd.out i hi))
  go_wp2_with fail
  obtain⟨w5,hw5⟩:∃w5,w4.alloc (.cells Q 210)=w5:=⟨_,rfl⟩
  have hsz:w4.heap.size<w5.heap.size:=by rw[<-hw5];simp
  have hx5:=(hx1.trans hx4).alloc (.cells Q 210)
  rw[hw5]at hx5
  rw[hw5]at HNC⊢
  clear hx1 hx4
  have HIX:=A0 (Tryz.slices_Index_string w4.heap.size 0 10 10 Ea.leftB U w5 RZ B0 (fun i hi=>by rw[T4];exact HNC.out i DL))
  rw[show Ea.leftB.take 10=Ea.leftB from rfl,HLI.out]at HIX
  clear hst hw5 HNC HRL HQd HQ1 HLI
  cases hf:Ea.find13 u with
  |none=>rw[hf]at HIX;simp only[Ea.plcO]at HIX;have HG:Hid (res=((0,[]),18)):=A0 (by rw[<-HRS.out];unfold J9;rw[C0 L0];dsimp only;rw[hf]);clear hf HPL;refine HIX.out.mono ?_;rintro e w8 ⟨rfl,rfl⟩;have hx:=hx5;obtain⟨z0,z1,z2,z3,z4,z5,z6,HB⟩:=X5 hx;have hxw:=hx.before;clear hx5 hx;exact aN
  |some d=>rw[hf]at HIX;simp only[Ea.plcO]at HIX;have hd10:=HPL.out d hf;have HF:=A0 hf;clear hf HPL;refine HIX.out.mono ?_;rintro e w8 ⟨rfl,rfl⟩;have hc1:(Utf8.encode (48+(d:Int))).data.toList=[Ea.chr d]:=aA;have hz1:(Utf8.encode (48+(d:Int))).size=1:=Zf hc1;obtain⟨CD,hCD⟩:∃CD,Utf8.encode (48+(d:Int))=CD:=⟨_,rfl⟩;rw[hCD]at hc1 hz1;(have hr1:∀w,(convert 21 9 (.int .i32 (48+(d:Int)))).run prog w=.ok (.string CD) w:=fun w=>by rw[<-hCD];exact PC w _ _ _ _ G0 underlying9);have HSS:Hid (CD++L=Ea.bS (Ea.chr d::l)):=A0 (by apply Zl;rw[Y3,F4,hc1,<-HL.out];rfl);have HR:=A0 (fun w=>RR 1 (Ea.bS (Ea.chr d::l)) (Ea.digs_cons (PF hd10) HLD.out.1) (.inr ⟨by decide,by rw[Zf (Ea.bS_list _),D1,HLD.out.2];omega,by rw[Zf (Ea.bS_list _),D1,HLD.out.2];omega⟩) w);rw[C0 (show¬(1:Int)=4 by decide),Ea.bS_list,<-HSS.out]at HR;clear hc1 hCD;by_cases hg:Ea.good (Ea.chr d::l);(·rw[V0 hg]at HR;by_cases hd0:d=0;(·have HG:Hid (res=((3,l),0)):=A0 (by rw[<-HRS.out];unfold J9;rw[C0 L0];dsimp only;rw[HF.out];dsimp only;rw[D0 hg,D0 hd0]);have hb0:((d:Int)==0)=true:=(by rw[hd0];rfl);clear hg hd0;go_wp2_with fail;refine(HR.out _).mono ?_;rintro e w9 ⟨rfl,hx9⟩;have hx:=(hx5.alloc _).trans hx9;have hlt:w.heap.size<w8.heap.size:=DQ;obtain⟨z0,z1,z2,z3,z4,z5,z6,HB⟩:=X5 hx;obtain⟨y0,y1,y2,y3,y4,y5,y6,HC⟩:=X5 hx9;have hxw:=hx.before;clear hx5 hx hx9;have HL2:Hid (w8.heap.size≠w.heap.size∧w.heap.size<=w8.heap.size):=A0 ⟨by omega,by omega⟩;go_wp2;refine E1 (Zi results212 rfl (Zk (PG HL2.out.1 HB)) rfl) rfl ?_;have HX:=(((hxw.setCell (p:=⟨w8.heap.size,0,none⟩) HL2.out.2 (.int .i64 3)).setCell (p:=⟨w8.heap.size,1,none⟩) HL2.out.2 (.string L)).setCell (p:=⟨w8.heap.size,2,none⟩) HL2.out.2 (.string ⟨#[]⟩));exact⟨by rw[HG.out];unfold symV linV;dsimp only;rw[HL.out];rfl,((HX.setCell (K0 _) _).setCell (K0 _) _).setCell (K0 _) _⟩);·have HG:Hid (res=((1,Ea.chr d::l),0)):=A0 (by rw[<-HRS.out];unfold J9;rw[C0 L0];dsimp only;rw[HF.out];dsimp only;rw[D0 hg,C0 hd0]);have hb0:((d:Int)==0)=false:=O2;clear hg hd0;go_wp2_with fail;refine(HR.out _).mono ?_;rintro e w9 ⟨rfl,hx9⟩;have hx:=(hx5.alloc _).trans hx9;have hlt:w.heap.size<w8.heap.size:=DQ;obtain⟨z0,z1,z2,z3,z4,z5,z6,HB⟩:=X5 hx;obtain⟨y0,y1,y2,y3,y4,y5,y6,HC⟩:=X5 hx9;have hxw:=hx.before;clear hx5 hx hx9;go_wp2;refine E1 (Zi results212 rfl (Zk HB) rfl) rfl ?_;exact aO);·rw[X0 hg]at HR;have HG:Hid (res=((0,[]),8)):=A0 (by rw[<-HRS.out];unfold J9;rw[C0 L0];dsimp only;rw[HF.out];dsimp only;rw[C0 hg]);clear hg;go_wp2_with fail;refine(HR.out _).mono ?_;rintro e w9 ⟨rfl,hx9⟩;have hx:=(hx5.alloc _).trans hx9;have hlt:w.heap.size<w8.heap.size:=DQ;obtain⟨z0,z1,z2,z3,z4,z5,z6,HB⟩:=X5 hx;obtain⟨y0,y1,y2,y3,y4,y5,y6,HC⟩:=X5 hx9;have hxw:=hx.before;clear hx5 hx hx9;exact aN
 ·have HG:Hid (J9 ((l,u),er)=((0,[]),er)):=A0 (by unfold J9;rw[D0 h0]);rw[HG.out];clear HG hk;unfold symV linV;dsimp only;generalize Ea.bS l=L at*;generalize Ea.bS (Ea.sS u)=U at*;have hb:(er !=0)=true:=C3.2 h0;go_enter func212,ntmps212;go_wp2_with fail;refine(HH.out _).mono ?_;rintro e w2 ⟨rfl,hx⟩;obtain⟨z0,z1,z2,z3,z4,z5,z6,HB⟩:=X5 hx;have hxw:=hx.before;clear hx;go_wp2;refine E1 (Zi results212 rfl (Zk HB) rfl) rfl ?_;exact G8
end Go.Proofs.YtbngggoccndefaaGreatDoor
end
section
namespace Go.Proofs.YtbngggoccndefaaGreatDoor
open Go.Proofs.Tryz
open Go.RowKit
def fE (j:Nat) (u:List Nat):Option (Nat×Nat):=if j=0 then Ea.findE u else if j=1 then(Ea.idx Ea.setsE1 u).map (fun c=>(1,c))else none
theorem DR {j:Nat} {u:List Nat} (hj:j<2) (h:Ea.idx (if j=0 then Ea.setsE0 else Ea.setsE1) u=none):fE j u=fE (j+1) u:=by
 rcases(by omega:j=0∨j=1)with rfl|rfl;·rw[D0 rfl]at h;unfold fE;rw[D0 rfl,C0 B0,D0 rfl,Ea.findE_eq,h]
 ·rw[C0 B0]at h;unfold fE;rw[C0 B0,D0 rfl,C0 B0,C0 B0,h];rfl
theorem DS {j c:Nat} {u:List Nat} (hj:j<2) (h:Ea.idx (if j=0 then Ea.setsE0 else Ea.setsE1) u=some c):fE j u=some (j,c)∧c<10:=by
 have hl:∀(l:List (List Nat)),l.length=10->Ea.idx l u=some c->c<10:=fun l hl h=>by obtain⟨h1,_⟩:=I1.1 (Ea.idx_some h);omega
 rcases(by omega:j=0∨j=1)with rfl|rfl;·rw[D0 rfl]at h;unfold fE;rw[D0 rfl,Ea.findE_eq,h];exact⟨rfl,hl _ rfl h⟩
 ·rw[C0 B0]at h;unfold fE;rw[C0 B0,D0 rfl,h];exact⟨rfl,hl _ rfl h⟩
def PH (r:Option (List UInt8×List Nat)):(Int×List UInt8)×Int:=match r with
 |none=>((0,[]),18)
 |some (l,u)=>match Ea.findE u with
  |none=>((0,[]),18)
  |some (y,c)=>if Ea.good (Ea.exp8 (Ea.chr y::(l++[Ea.chr c])))then((4,Ea.chr y::(l++[Ea.chr c])),0)else((0,[]),8)
theorem ZkO {u:List Nat} {y c:Nat} (h:Ea.findE u=some (y,c)):y<2∧c<10:=by
 have h0:fE 0 u=some (y,c):=h
 cases h1:Ea.idx Ea.setsE0 u with
 |some c'=>obtain⟨a,b⟩:=DS (j:=0) B0 (by rw[D0 rfl];exact h1);rw[a]at h0;cases h0;exact⟨by omega,b⟩
 |none=>
  rw[DR (j:=0) B0 (by rw[D0 rfl];exact h1)]at h0
  cases h2:Ea.idx Ea.setsE1 u with
  |some c'=>obtain⟨a,b⟩:=DS (j:=1) B0 (by rw[C0 B0];exact h2);rw[a]at h0;cases h0;exact⟨by omega,b⟩
  |none=>rw[DR (j:=1) B0 (by rw[C0 B0];exact h2)]at h0;cases h0
theorem aP {l:List UInt8} {y c:Nat} (hd:Ea.digs l=true) (hy:y<2) (hc:c<10):Ea.digs (Ea.chr y::(l++[Ea.chr c]))=true:=
 Ea.digs_cons (PF B0) (Ea.digs_app.2 ⟨hd,Ea.digs_cons (PF hc) rfl⟩)
theorem ZlP (sl:List Bool) (hW:sl.length=51) (g1:sl.take 3=Ea.gd) (g2:sl.drop 45=Ea.eE):Ea.rdSym 51 sl=PH (Ea.rcg true 0 0 6 (sl.drop 3)):=by
 unfold Ea.rdSym
 rw[show 51-(Ea.stp 51).length=45 from rfl,show Ea.stp 51=Ea.eE from rfl,C0 (fun h=>h g1),C0 (fun h=>h g2)]
 rw[show Ea.rdK 51 sl=Ea.rdE sl from rfl]
 unfold Ea.rdE PH
 cases h1:Ea.rcg true 0 0 6 (sl.drop 3)with
 |none=>rfl
 |some p=>
  obtain⟨l,u⟩:=p
  dsimp only
  cases hf:Ea.findE u with
  |none=>rfl
  |some q=>obtain⟨y,c⟩:=q;obtain⟨hy,hc⟩:=ZkO hf;obtain⟨_,a2,_,a4,_⟩:=Ea.rcg_inv true 0 B0 6 _ _ _ h1 C8;rw[YF];dsimp only;have hfull:=DO (k:=4) (l:=Ea.chr y::(l++[Ea.chr c])) I0 (aP a4 hy hc) (by rw[D1,T0,a2];rfl) (fun _=>by rw[TZ];rcases(by omega:y=0∨y=1)with rfl|rfl<;>decide);rw[D0 (show(4:Int)=4 from rfl)]at hfull;rw[show Ea.kindOf 51=4 from rfl,hfull];by_cases hg:Ea.good (Ea.exp8 (Ea.chr y::(l++[Ea.chr c])));(·exact aL);·exact DP
theorem ZfL (s:ByteArray) (sl:List Bool) (hs:s.data.toList=Ea.mS sl) (hW:sl.length=51) (w:World):
 Calls prog 214 #[.string s] w fun e w'=>e=.returned (symV (Ea.rdSym 51 sl))∧Ext w w':=by
 have hsz:s.size=51:=DM
 have HP:=A0 (fun w=>hasP s ⟨#[49,48,49]⟩ Ea.gd sl hs rfl w)
 have HQ:=A0 (fun w=>hasS s ⟨#[48,49,48,49,48,49]⟩ Ea.eE sl hs rfl (by rw[hW];decide) B0 w)
 rw[show Ea.gd.length=3 from rfl]at HP
 rw[hW,show 51-Ea.eE.length=45 from rfl]at HQ
 obtain⟨J,hJ⟩:∃J,s.extract 3 45=J:=⟨_,rfl⟩
 have hJl:J.data.toList=Ea.mS ((sl.drop 3).take 42):=DN
 have HJ:=A0 hJ
 have HL:=A0 (UW true 0 6 ((sl.drop 3).take 42) J ⟨#[65,66]⟩ hJl PE B0 B0 (fun _=>rfl) rfl)
 rw[PD true 0 6 (sl.drop 3),<-hJ]at HL
 obtain⟨res,hres⟩:∃res,Ea.rdSym 51 sl=res:=⟨_,rfl⟩
 have HX:=A0 (Ea.rdSym.eq_1 51 sl)
 rw[show 51-(Ea.stp 51).length=45 from rfl,show Ea.stp 51=Ea.eE from rfl,hres]at HX
 rw[hres]
 have HSE:=A0 (ZlP sl hW)
 rw[hres]at HSE
 have HIV:=A0 (fun l u (h:Ea.rcg true 0 0 6 (sl.drop 3)=some (l,u))=>Ea.rcg_inv true 0 B0 6 _ _ _ h C8)
 clear hs hW hJl hres hJ
 by_cases g1:sl.take 3=Ea.gd
 ·rw[C0 (fun h=>h g1)]at HX;rw[V0 g1]at HP;by_cases g2:sl.drop 45=Ea.eE
  ·have HS:=A0 (HSE.out g1 g2)
   rw[V0 g2]at HQ
   clear g1 g2 HX HSE
   cases h1:Ea.rcg true 0 0 6 (sl.drop 3)with
   |none=>rw[h1]at HS HL;simp only[recV]at HL;clear h1 HIV;go_enter func214,ntmps214;go_wp2_with fail;refine(HP.out _).mono ?_;rintro e w1 ⟨rfl,rfl⟩;go_wp2_with fail;refine(HQ.out _).mono ?_;rintro e w1 ⟨rfl,rfl⟩;go_wp2_with fail;refine(HL.out _).mono ?_;rintro e w2 ⟨rfl,hx⟩;obtain⟨z0,z1,z2,z3,z4,z5,z6,HB⟩:=X5 hx;have hxw:=hx.before;clear hx;go_wp2;refine E1 (Zi results214 rfl (Zk HB) rfl) rfl ?_;exact LH
   |some p=>
    obtain⟨l,u⟩:=p;obtain⟨_,hl6,_,hld,hlm⟩:=HIV.out l u h1;have hu3:∀x∈u,x<3:=fun x hx=>Ea.may_lt B0 (hlm x hx);rw[h1]at HS HL;simp only[recV]at HL;have HLD:=A0 (And.intro hld hl6);have HU3:=A0 hu3;have hLs:(Ea.bS l).size<=12:=(by rw[Zf (Ea.bS_list l)];omega);clear h1 HIV hl6 hld hlm hu3;obtain⟨L,hL⟩:∃L,Ea.bS l=L:=⟨_,rfl⟩;have HLL:=A0 hL;obtain⟨U,hU⟩:∃U,Ea.bS (Ea.sS u)=U:=⟨_,rfl⟩;have HUU:=A0 hU;rw[hL]at HL hLs;rw[hU]at HL;clear hL hU;go_enter func214,ntmps214;go_wp2_with fail;refine(HP.out _).mono ?_;rintro e w1 ⟨rfl,rfl⟩;go_wp2_with fail;refine(HQ.out _).mono ?_;rintro e w1 ⟨rfl,rfl⟩;go_wp2_with fail;refine(HL.out _).mono ?_;rintro e w2 ⟨rfl,hx⟩;have kc:=fun(w:World) (C:Array Value) (n c:Nat)=>jG (P:=prog) w 90 5 C n c underlying90 underlying5;go_wp2_with fail;clear kc HP HQ HL HJ;obtain⟨w5,hw5⟩:∃w5,w2.alloc (.cells #[.int .u8 48,.int .u8 49] 5 (2,3))=w5:=⟨_,rfl⟩;have hsz5:w2.heap.size<w5.heap.size:=(by rw[<-hw5];simp);have HC5:Hid (∀j:Nat,j<2->w5.cell? ⟨w2.heap.size,j,none⟩=some (.int .u8 (48+(j:Int)))):=A0 (fun j hj=>by rw[<-hw5,World.cell?_alloc_mark];rcases(by omega:j=0∨j=1)with rfl|rfl<;>rfl);have hx5:=hx.alloc (.cells #[.int .u8 48,.int .u8 49] 5 (2,3));rw[hw5]at hx5⊢;clear hw5 hx;go_loopw [36] (fun v36 wr=>∃j:Nat,j<=2∧v36=.int .i64 (j:Int)∧Hid (Ea.findE u=fE j u)∧Ext w5 wr) (fun v36 _=>2-(intOf v36).toNat);(case atStart=>exact⟨0,by omega,rfl,A0 rfl,Ext.refl _⟩);case round=>
     obtain⟨j,hj,rfl,HF,hxr⟩:=hrel;by_cases hj2:j<2
     ·have hcell:=(hxr.cell (p:=⟨w2.heap.size,j,none⟩) hsz5).trans (HC5.out j hj2)
      have HCS:=A0 (fun w=>rB j hj2 w)
      unfold arrV at HCS
      obtain⟨Q,hQ⟩:∃Q,((Ea.compB j).map Value.string).toArray=Q:=⟨_,rfl⟩
      have hRl:(Ea.compB j).length=10:=by rcases(by omega:j=0∨j=1)with rfl|rfl<;>rfl
      have hQs:Q.size=10:=by rw[<-hQ];simp[hRl]
      have HQ1:Hid (Q.all (·.oneCell')=true):=A0 DK
      have HQd:Hid (∀i,i<10->Q[i]? =some (.string ((Ea.compB j).getD i ByteArray.empty))):=A0 (fun i hi=>by rw[<-hQ];simp only[SI,J2];rw[M0 UX,U0,M0 UX];rfl)
      have HRL:=A0 hRl
      have HCI:=A0 (Ea.comp_idx j u HU3.out)
      rw[HUU.out]at HCI
      rw[hQ]at HCS
      clear hQ hRl
      go_wp2_with fail
      refine(HCS.out _).mono ?_
      rintro e w4 ⟨rfl,hx4⟩
      have hst:=VW Q hQs HQ1.out w4
      have HNC:=A0 (fun i hi=>H7 Q 210 w4 (HQd.out i hi))
      go_wp2_with fail
      obtain⟨w6,hw6⟩:∃w6,w4.alloc (.cells Q 210)=w6:=⟨_,rfl⟩
      have hx6:=(hxr.trans hx4).alloc (.cells Q 210)
      rw[hw6]at hx6 HNC⊢
      have HIX:=A0 (Tryz.slices_Index_string w4.heap.size 0 10 10 (Ea.compB j) U w6 RZ B0 (fun i hi=>by rw[T4];exact HNC.out i DL))
      rw[show(Ea.compB j).take 10=Ea.compB j from X1 RZ,HCI.out]at HIX
      clear hst hw6 HNC HRL HQd HQ1 HCI hxr hx4 hcell
      cases hf:Ea.idx (if j=0 then Ea.setsE0 else Ea.setsE1) u with
      |none=>rw[hf]at HIX;simp only[Ea.plcO]at HIX;have HF2:=A0 (HF.out.trans (DR hj2 hf));clear hf;refine HIX.out.mono ?_;rintro e w8 ⟨rfl,rfl⟩;go_wp2;go_roundw;(case rel=>exact⟨j+1,by omega,by go_num,HF2,hx6⟩);case measure=>exact Q8
      |some c=>rw[hf]at HIX;simp only[Ea.plcO]at HIX;obtain⟨hf1,hc10⟩:=DS hj2 hf;have HF2:=A0 (HF.out.trans hf1);clear hf hf1;refine HIX.out.mono ?_;rintro e w8 ⟨rfl,rfl⟩;have hc1:(Utf8.encode (48+(c:Int))).data.toList=[Ea.chr c]:=(by rw[show(48+(c:Int))=((48+c:Nat):Int) by omega];exact LC (48+c) B0);have hc2:(Utf8.encode (48+(j:Int))).data.toList=[Ea.chr j]:=(by rw[show(48+(j:Int))=((48+j:Nat):Int) by omega];exact LC (48+j) B0);have hz1:(Utf8.encode (48+(c:Int))).size=1:=Zf hc1;have hz2:(Utf8.encode (48+(j:Int))).size=1:=Zf hc2;obtain⟨CC,hCC⟩:∃CC,Utf8.encode (48+(c:Int))=CC:=⟨_,rfl⟩;obtain⟨CJ,hCJ⟩:∃CJ,Utf8.encode (48+(j:Int))=CJ:=⟨_,rfl⟩;rw[hCC]at hc1 hz1;rw[hCJ]at hc2 hz2;(have hr1:∀w,(convert 21 9 (.int .i32 (48+(c:Int)))).run prog w=.ok (.string CC) w:=fun w=>by rw[<-hCC];exact PC w _ _ _ _ G0 underlying9);(have hr2:∀w,(convert 21 9 (.int .i32 (48+(j:Int)))).run prog w=.ok (.string CJ) w:=fun w=>by rw[<-hCJ];exact PC w _ _ _ _ G0 underlying9);have HSS:Hid (CJ++L++CC=Ea.bS (Ea.chr j::(l++[Ea.chr c]))):=A0 (by apply Zl;rw[Y3,F4,Y3,F4,hc1,hc2,<-HLL.out];rfl);have HR:=A0 (fun w=>RR 4 (Ea.bS (Ea.chr j::(l++[Ea.chr c]))) (aP HLD.out.1 hj2 hc10) (.inl ⟨rfl,by rw[Zf (Ea.bS_list _),D1,T0,HLD.out.2];rfl⟩) w);rw[D0 (show(4:Int)=4 from rfl),Ea.bS_list,<-HSS.out]at HR;clear hc1 hc2 hCC hCJ;by_cases hg:Ea.good (Ea.exp8 (Ea.chr j::(l++[Ea.chr c])));(·rw[V0 hg]at HR;have HG:Hid (res=((4,Ea.chr j::(l++[Ea.chr c])),0)):=A0 (by rw[HS.out];unfold PH;dsimp only;rw[HF2.out];dsimp only;rw[D0 hg]);clear hg;go_wp2_with fail;refine(HR.out _).mono ?_;rintro e w9 ⟨rfl,hx9⟩;have hx:=(hx5.trans hx6).trans hx9;obtain⟨z0,z1,z2,z3,z4,z5,z6,HB⟩:=X5 hx;have hxw:=hx.before;clear hx5 hx6 hx9 hx;go_wp2;refine E1 (Zi results214 rfl (Zk HB) rfl) rfl ?_;exact aO);·rw[X0 hg]at HR;have HG:Hid (res=((0,[]),8)):=A0 (by rw[HS.out];unfold PH;dsimp only;rw[HF2.out];dsimp only;rw[C0 hg]);clear hg;go_wp2_with fail;refine(HR.out _).mono ?_;rintro e w9 ⟨rfl,hx9⟩;have hx:=(hx5.trans hx6).trans hx9;obtain⟨z0,z1,z2,z3,z4,z5,z6,HB⟩:=X5 hx;have hxw:=hx.before;clear hx5 hx6 hx9 hx;exact aQ
     ·obtain rfl:j=2:=B0;have HG:Hid (res=((0,[]),18)):=A0 (by rw[HS.out];unfold PH;dsimp only;rw[HF.out];rfl);have hx:=hx5.trans hxr;obtain⟨z0,z1,z2,z3,z4,z5,z6,HB⟩:=X5 hx;have hxw:=hx.before;clear hx5 hxr hx;exact aQ
  ·have HS:Hid (res=((0,[]),20)):=A0 (by rw[HX.out,D0 g2]);rw[X0 g2]at HQ;clear g1 g2 HX HSE HIV HL;go_enter func214,ntmps214;go_wp2_with fail;refine(HP.out _).mono ?_;rintro e w1 ⟨rfl,rfl⟩;go_wp2_with fail;refine(HQ.out _).mono ?_;rintro e w1 ⟨rfl,rfl⟩;go_wp2;go_returns;exact LH
 ·have HS:Hid (res=((0,[]),19)):=A0 (by rw[HX.out,D0 g1]);rw[X0 g1]at HP;clear g1 HX HSE HIV HL HQ;go_enter func214,ntmps214;go_wp2_with fail;refine(HP.out _).mono ?_;rintro e w1 ⟨rfl,rfl⟩;go_wp2;go_returns;exact LH
end Go.Proofs.YtbngggoccndefaaGreatDoor
namespace Go.Proofs.YtbngggoccndefaaGreatDoor
open Go.Proofs.Tryz
open Go.RowKit
def ZS:Nat->List Bool->List UInt8->List Nat->Option (List UInt8×List Nat)
 |0,_,_,_=>none
 |m+1,s,ds,us=>match Ea.look true 0 (s.take 7)with
  |none=>none
  |some (d,u)=>if m=0 then some (ds++[Ea.chr d],us++[u])
   else if(s.drop 7).take 2=Ea.gA then ZS m (s.drop 9) (ds++[Ea.chr d]) (us++[u])else none
theorem Zik:∀(m:Nat) (s:List Bool) (ds:List UInt8) (us:List Nat),ZS (m+1) s ds us=
 if(List.range m).all (fun i=>(s.drop (7+9*i)).take 2==Ea.gA)then(Ea.rcg true 0 2 (m+1) s).map (fun p=>(ds++p.1,us++p.2))else none:=by
 intro m
 induction m with
 |zero=>
  intro s ds us
  rw[show(List.range 0).all (fun i=>(s.drop (7+9*i)).take 2==Ea.gA)=true from rfl,D0 rfl]
  unfold ZS Ea.rcg
  cases Ea.look true 0 (s.take 7)with
  |none=>rfl
  |some p=>rfl
 |succ m ih=>
  intro s ds us
  rw[ZS,Ea.rcg]
  cases hl:Ea.look true 0 (s.take 7)with
  |none=>dsimp only;split<;>rfl
  |some p=>
   obtain⟨d,u⟩:=p;dsimp only;rw[C0 B0,List.range_succ_eq_map,LI,List.all_map];by_cases hg:(s.drop 7).take 2=Ea.gA
   ·rw[D0 hg,ih,show((List.drop (7+9*0) s).take 2==Ea.gA)=true from Y0.2 hg,WH];have e:((fun i=>(s.drop (7+9*i)).take 2==Ea.gA)∘Nat.succ)=fun i=>((s.drop 9).drop (7+9*i)).take 2==Ea.gA:=(by funext i;simp only[Function.comp,W5];rw[show 7+9*i.succ=9+(7+9*i) by omega]);rw[e,show 7+2=9 from rfl];split
    ·cases Ea.rcg true 0 2 (m+1) (s.drop 9)with
     |none=>rfl
     |some q=>simp[Ea.chr]
    ·rfl
   ·rw[C0 hg,show((List.drop (7+9*0) s).take 2==Ea.gA)=false from N0.2 hg,N8];rfl
def addP (r:Option (List UInt8×List Nat)):List UInt8×Int:=match r with
 |none=>([],18)
 |some (l,u)=>if Ea.setsAdd l≠u then([],8)else(l,0)
theorem Znt (m:Nat) (sl:List Bool) (g:sl.take 4=Ea.sA):Ea.rdAdd (m+1) sl=addP (ZS (m+1) (sl.drop 4) [] []):=by
 unfold Ea.rdAdd;rw[C0 (fun h=>h g),Zik,VR];have e:(fun i=>((sl.drop 4).drop (7+9*i)).take 2==Ea.gA)=fun i=>(sl.drop (11+9*i)).take 2==Ea.gA:=by funext i;rw[W5,show 4+(7+9*i)=11+9*i by omega]
 rw[e];cases h:(List.range m).all (fun i=>(sl.drop (11+9*i)).take 2==Ea.gA);·rw[D0 rfl];rfl
 ·rw[C0 L0,D0 rfl]
  cases Ea.rcg true 0 2 (m+1) (sl.drop 4)with
  |none=>rfl
  |some p=>rfl
def addV (r:List UInt8×Int):Value:=.tuple #[.string (Ea.bS r.1),.int .i64 r.2]
theorem Znd (s:List Bool):Ea.rcg true 0 0 1 s=(Ea.look true 0 (s.take 7)).map (fun p=>([Ea.chr p.1],[p.2])):=by
 unfold Ea.rcg
 cases Ea.look true 0 (s.take 7)with
 |none=>rfl
 |some p=>rfl
theorem ZfQ {a:List UInt8} (h:a.length=2∨a.length=5):∀x∈Ea.setsAdd a,x<3:=fun x hx=>by have:=(Ea.setsAdd_ok h).2 x hx;omega
theorem ZfJ (n:Nat) (hn:n=2∨n=5) (s:ByteArray) (sl:List Bool) (hs:s.data.toList=Ea.mS sl) (hW:sl.length=Ea.wAdd n) (w:World):
 Calls prog 215 #[.string s] w fun e w'=>e=.returned (addV (Ea.rdAdd n sl))∧Ext w w':=by
 have hW2:sl.length=9*n+2:=by rw[hW];rcases hn with rfl|rfl<;>rfl
 have hsz:s.size=9*n+2:=by rw[Zf hs,Ea.mS_len,hW2]
 have hszu:s.size<=47:=by omega
 have hszl:20<=s.size:=by omega
 have HP:=A0 (fun w=>hasP s ⟨#[49,48,49,49]⟩ Ea.sA sl hs rfl w)
 rw[show Ea.sA.length=4 from rfl]at HP
 obtain⟨res,hres⟩:∃res,Ea.rdAdd n sl=res:=⟨_,rfl⟩
 rw[hres]
 have HX:=A0 (Ea.rdAdd.eq_1 n sl)
 rw[hres]at HX
 have HN:=A0 hn
 have HAE:Hid (sl.take 4=Ea.sA->res=addP (ZS n (sl.drop 4) [] [])):=A0 (fun g=>by rw[<-hres];obtain⟨m,rfl⟩:∃m,n=m+1:=⟨n-1,by omega⟩;exact Znt m sl g)
 have HJ:Hid ((s.extract 4 s.size).data.toList=Ea.mS (sl.drop 4)):=A0 (by rw[ZD,hs,Ea.mS_drop])
 have HW2:=A0 hW2
 have HSZ:=A0 hsz
 clear hres hs hW hW2 hsz
 by_cases g1:sl.take 4=Ea.sA
 ·rw[V0 g1]at HP;have HS:=A0 (HAE.out g1);clear g1 HX HAE;go_enter func215,ntmps215;go_wp2_with fail;refine(HP.out _).mono ?_;rintro e w1 ⟨rfl,rfl⟩;go_wp2_with fail;go_loopw [4,5,6] (fun v4 v5 v6 wr=>∃(k:Nat) (D T R:ByteArray) (ds:List UInt8) (us:List Nat),k<n∧v4=.string D∧v5=.string T∧v6=.string R∧Hid (R.data.toList=Ea.mS (sl.drop (4+9*k)))∧Hid (D.data.toList=ds)∧Hid (T.data.toList=Ea.sS us)∧D.size=k∧T.size=k∧Hid (Ea.digs ds=true∧∀x∈us,x<3)∧Hid (ZS n (sl.drop 4) [] []=ZS (n-k) (sl.drop (4+9*k)) ds us)∧Ext w wr) (fun _ _ v6 _=>match v6 with| .string R=>R.size|_=>0);(case atStart=>exact⟨0,⟨#[]⟩,⟨#[]⟩,_,[],[],by omega,rfl,rfl,rfl,HJ,A0 rfl,A0 rfl,rfl,rfl,A0 ⟨rfl,by simp⟩,A0 rfl,Ext.refl w⟩);case round=>
   obtain⟨k,D,T,R,ds,us,hk,rfl,rfl,rfl,HR,HD,HT,hDs,hTs,HDU,HAL,hxr⟩:=hrel
   have hRs:R.size=9*(n-k)-2:=by rw[Zf HR.out,Ea.mS_len,X2,HW2.out];omega
   have hR7:7<=R.size:=by omega
   have hR47:R.size<=47:=by omega
   have HRS:=A0 hRs
   have hD5:D.size<=5:=I8
   have hT5:T.size<=5:=I8
   have HDT:=A0 (And.intro hDs hTs)
   have HRC:=A0 (fun w=>UW true 0 1 ((sl.drop (4+9*k)).take 7) (R.extract 0 7) ⟨#[65,66]⟩ (by rw[Zy,HR.out,Ea.mS_take]) (by rw[M1,X2,HW2.out];omega) B0 B0 (fun _=>rfl) rfl w)
   rw[Znd,UC,Nat.min_self]at HRC
   clear hRs hDs hTs
   obtain⟨q,hq⟩:∃q,n-k=q+1:=⟨n-k-1,by omega⟩
   cases hl:Ea.look true 0 ((sl.drop (4+9*k)).take 7)with
   |none=>rw[hl]at HRC;simp only[Option.map,recV]at HRC;have HG:Hid (res=([],18)):=A0 (by rw[HS.out,HAL.out,hq,ZS,hl];rfl);clear hl hq;go_wp2_with fail;refine(HRC.out _).mono ?_;rintro e w3 ⟨rfl,hx3⟩;exact aR
   |some p=>obtain⟨d,u⟩:=p;obtain⟨hd10,_,hmay⟩:=Ea.look_some B0 hl;have hu3:u<3:=Ea.may_lt B0 hmay;rw[hl]at HRC;simp only[Option.map,recV]at HRC;have HAL2:Hid (ZS n (sl.drop 4) [] []=if q=0 then some (ds++[Ea.chr d],us++[u])else if((sl.drop (4+9*k)).drop 7).take 2=Ea.gA then ZS q ((sl.drop (4+9*k)).drop 9) (ds++[Ea.chr d]) (us++[u])else none):=A0 (by rw[HAL.out,hq,ZS,hl]);obtain⟨CD,hCD⟩:∃CD,Ea.bS [Ea.chr d]=CD:=⟨_,rfl⟩;obtain⟨CT,hCT⟩:∃CT,Ea.bS (Ea.sS [u])=CT:=⟨_,rfl⟩;have hz1:CD.size=1:=(by rw[<-hCD];rfl);have hz2:CT.size=1:=(by rw[<-hCT];rfl);rw[hCD,hCT]at HRC;have HD2:Hid ((D++CD:ByteArray).data.toList=ds++[Ea.chr d]):=A0 (by rw[Y3,F4,HD.out,<-hCD];rfl);have HT2:Hid ((T++CT:ByteArray).data.toList=Ea.sS (us++[u])):=A0 (by rw[Y3,F4,HT.out,Ea.sS_app,<-hCT];rfl);have HDU2:Hid (Ea.digs (ds++[Ea.chr d])=true∧∀x∈us++[u],x<3):=A0 ⟨Ea.digs_app.2 ⟨HDU.out.1,Ea.digs_cons (PF hd10) rfl⟩,fun x hx=>by rcases B5.1 hx with h|h;(·exact HDU.out.2 x h);·rw[U3.1 h];exact hu3⟩;have HSZ2:Hid ((D++CD:ByteArray).size=k+1∧(T++CT:ByteArray).size=k+1):=A0 (by rw[WF,WF,hz1,hz2,HDT.out.1,HDT.out.2];exact⟨rfl,rfl⟩);have HQ:=A0 hq;clear hl hq hd10 hmay hu3 hCD hCT;obtain⟨D2,hD2⟩:∃D2,D++CD=D2:=⟨_,rfl⟩;obtain⟨T2,hT2⟩:∃T2,T++CT=T2:=⟨_,rfl⟩;rw[hD2]at HD2 HSZ2;rw[hT2]at HT2 HSZ2;by_cases hq0:q=0;(·have HAL3:Hid (ZS n (sl.drop 4) [] []=some (ds++[Ea.chr d],us++[u])):=A0 (by rw[HAL2.out,D0 hq0]);have hb7:((R.size:Int)==7)=true:=(by rw[Y0];have:=HRS.out;exact M7);have HAS:=A0 (fun w=>DC D2 (by rw[HSZ2.out.1];have:=HN.out;have:=HQ.out;omega) (by rw[HD2.out];exact HDU2.out.1) w);obtain⟨X,hX⟩:∃X,Ea.bS (Ea.sS (Ea.setsAdd D2.data.toList))=X:=⟨_,rfl⟩;have HC:Hid ((T2.toList==X.toList)=decide (Ea.setsAdd (ds++[Ea.chr d])=us++[u])):=A0 (by rw[C4,Y0,Y1,<-hX,C2,C2,HT2.out,HD2.out,Ea.bS_list];constructor;(·intro h;exact(Ea.sS_inj HDU2.out.2 (ZfQ (by rw[<-HD2.out,Zd,HSZ2.out.1];have:=HN.out;have:=HQ.out;omega)) h).symm);·intro h;rw[h]);rw[hX]at HAS;clear hq0 hX HAL2;go_wp2_with fail;refine(HRC.out _).mono ?_;rintro e w3 ⟨rfl,hx3⟩;go_wp2_with fail;refine(HAS.out _).mono ?_;rintro e w4 ⟨rfl,hx4⟩;cases hc:(T2.toList==X.toList);(·have HG:Hid (res=([],8)):=A0 (by have h:=HC.out;rw[hc]at h;rw[HS.out,HAL3.out];unfold addP;dsimp only;rw[D0 (K9 h.symm)]);go_wp2;go_ret2;exact⟨by rw[HG.out];rfl,(hxr.trans hx3).trans hx4⟩);·have HG:Hid (res=(ds++[Ea.chr d],0)):=A0 (by have h:=HC.out;rw[hc]at h;rw[HS.out,HAL3.out];unfold addP;dsimp only;rw[C0 (fun hh=>hh (G6 h.symm))]);have HDD:Hid (D2=Ea.bS (ds++[Ea.chr d])):=A0 (by rw[<-HD2.out,Ea.bS_of]);go_wp2;go_ret2;exact⟨by rw[HG.out];unfold addV;dsimp only;rw[<-HDD.out];rfl,(hxr.trans hx3).trans hx4⟩);·have hb7:((R.size:Int)==7)=false:=(by rw[N0];have:=HRS.out;exact M7);have hR9:9<=R.size:=(by have:=HRS.out;exact M7);have HRD:Hid ((R.extract 7 R.size).data.toList=Ea.mS ((sl.drop (4+9*k)).drop 7)):=A0 (by rw[ZD,HR.out,Ea.mS_drop]);have HRE:Hid ((R.extract 9 R.size).data.toList=Ea.mS (sl.drop (4+9*(k+1)))):=A0 (by rw[ZD,HR.out,Ea.mS_drop,W5,show 4+9*k+9=4+9*(k+1) by omega]);have HPG:=A0 (fun w=>hasP (R.extract 7 R.size) ⟨#[48,49]⟩ Ea.gA _ HRD.out rfl w);rw[show Ea.gA.length=2 from rfl]at HPG;by_cases hg:((sl.drop (4+9*k)).drop 7).take 2=Ea.gA;(·have HAL3:Hid (ZS n (sl.drop 4) [] []=ZS (n-(k+1)) (sl.drop (4+9*(k+1))) (ds++[Ea.chr d]) (us++[u])):=A0 (by rw[HAL2.out,C0 hq0,D0 hg,W5,show 4+9*k+9=4+9*(k+1) by omega,show n-(k+1)=q by have:=HQ.out;omega]);have hk2:k+1<n:=M7;rw[V0 hg]at HPG;clear hg hq0 HAL2;go_wp2_with fail;refine(HRC.out _).mono ?_;rintro e w3 ⟨rfl,hx3⟩;go_wp2_with fail;refine(HPG.out _).mono ?_;rintro e w4 ⟨rfl,rfl⟩;go_wp2;go_roundw;(case rel=>exact⟨k+1,_,_,_,_,_,hk2,rfl,rfl,rfl,HRE,HD2,HT2,HSZ2.out.1,HSZ2.out.2,HDU2,HAL3,hxr.trans hx3⟩);case measure=>exact S0);·have HG:Hid (res=([],18)):=A0 (by rw[HS.out,HAL2.out,C0 hq0,C0 hg];rfl);rw[X0 hg]at HPG;clear hg hq0 HAL2;go_wp2_with fail;refine(HRC.out _).mono ?_;rintro e w3 ⟨rfl,hx3⟩;go_wp2_with fail;refine(HPG.out _).mono ?_;rintro e w4 ⟨rfl,rfl⟩;exact aR
 ·have HS:Hid (res=([],19)):=A0 (by rw[HX.out,D0 g1]);rw[X0 g1]at HP;clear g1 HX HAE HJ;go_enter func215,ntmps215;go_wp2_with fail;refine(HP.out _).mono ?_;rintro e w1 ⟨rfl,rfl⟩;go_wp2;go_ret2;exact LH
end Go.Proofs.YtbngggoccndefaaGreatDoor
namespace Go.Proofs.YtbngggoccndefaaGreatDoor
open Go.Proofs.Tryz
open Go.RowKit
theorem Zms (g:Nat):∀l:List Bool,l.length=g->(l=Ea.lgt g↔l.all (fun b=> !b)=true):=by
 intro l hl;unfold Ea.lgt;rw[List.eq_replicate_iff,U1];constructor;·rintro⟨_,h⟩ b hb;rw[h b hb];rfl
 ·intro h;exact⟨hl,fun b hb=>by have:=h b hb;simpa using this⟩
theorem ZkU (n a:Nat) (hn:n<=95) (ha:a=0∨a=2∨a=5) (s:ByteArray) (sl:List Bool) (hs:s.data.toList=Ea.mS sl) (hW:sl.length<=65536) (w:World):
 Calls prog 138 #[.string s,.int .i64 (n:Int),.int .i64 (a:Int)] w fun e w'=>e=.returned (.bool (Ea.fits sl n a))∧Ext w w':=by
 have hz:s.size=sl.length:=XZ
 have hsz:s.size<=65536:=by omega
 have HA:=A0 (fun w=>MQ a ha w)
 obtain⟨W,hWA⟩:∃W,Ea.wAdd a=W:=⟨_,rfl⟩
 have hW47:W<=47:=by rw[<-hWA];rcases ha with rfl|rfl|rfl<;>decide
 rw[hWA]at HA
 obtain⟨res,hres⟩:∃res,Ea.fits sl n a=res:=⟨_,rfl⟩
 have HX:=A0 hres
 unfold Ea.fits at HX
 rw[hres]
 rw[hWA,<-hz]at HX
 by_cases h0:a=0
 ·have HR:Hid (res=((s.size:Int)-(n:Int)-(W:Int)==0)):=A0 (by rw[<-HX.out,D0 h0];have:W=0:=(by rw[<-hWA,h0];rfl);rw[this,C4,Y0,Y0];omega);have hb:((a:Int)==0)=true:=RO;clear h0 hres hWA HX ha hs hz hW;go_enter func138,ntmps138;go_wp2_with fail;refine(HA.out _).mono ?_;rintro e w1 ⟨rfl,rfl⟩;go_wp2;go_ret;exact⟨by rw[HR.out];rfl,Xf⟩
 ·rw[C0 h0]at HX;have hb:((a:Int)==0)=false:=O2;have HL:Hid (s.data.toList=Ea.mS sl):=A0 hs;have HZ:=A0 hz;clear h0 hres hWA ha hs hz hW;by_cases h7:n+W+7<=s.size;(·rw[V0 h7,WH]at HX;by_cases h12:s.size<=n+W+12;(·rw[V0 h12,WH]at HX;obtain⟨g,hg⟩:∃g,s.size-n-W=g:=⟨_,rfl⟩;have hgi:(s.size:Int)-(n:Int)-(W:Int)=(g:Int):=B0;have HRP:=A0 (fun w=>I9 g B0 w);rw[show s.size-n-W=g from hg]at HX;have hcl:(s.extract n (n+g)).data.toList=Ea.mS ((sl.drop n).take g):=(by rw[Z0,HL.out,Ea.mS_drop,Ea.mS_take,GX]);have HC:Hid (((s.extract n (n+g)).toList==(Ea.bS (Ea.mS (Ea.lgt g))).toList)=res):=A0 (by rw[<-HX.out,C2,C2,hcl,Ea.bS_list,C4,Y0,Ea.mS_inj];exact Zms g _ (by rw[M1,X2,<-HZ.out];omega));have hg1:decide ((7:Int)<=(g:Int))=true:=V0 B0;have hg2:decide ((g:Int)<=12)=true:=V0 B0;have hg12:g<=12:=B0;have hle:n+g<=s.size:=B0;clear hg hcl;obtain⟨Z,hZ⟩:∃Z,Ea.bS (Ea.mS (Ea.lgt g))=Z:=⟨_,rfl⟩;rw[hZ]at HRP HC;clear hZ;go_enter func138,ntmps138;go_wp2_with fail;refine(HA.out _).mono ?_;rintro e w1 ⟨rfl,rfl⟩;go_wp2_with fail;refine D6 (C:=fun w'=>∃x:Zx w,w'=x.at') G0 G0 (Zx.drawn _) ?_;(try dsimp only);(repeat(first|go_big_quiet_step ((go_at_call 109;with_reducible exact Zu (HRP.out _)))|quiet_step ((go_at_call 109;with_reducible exact Zu (HRP.out _)))));refine E6 ?_;intro _ hx0;obtain⟨x0,hx0⟩:=hx0;subst hx0;obtain⟨w8,hx8⟩:=x0;(try dsimp only);go_wp2;go_ret;exact⟨by rw[<-HC.out];rfl,hx8⟩);·rw[X0 h12,N8]at HX;have hg1:decide ((7:Int)<=(s.size:Int)-(n:Int)-(W:Int))=true:=V0 B0;have hg2:decide ((s.size:Int)-(n:Int)-(W:Int)<=12)=false:=X0 B0;exact aS);·rw[X0 h7,N8,N8]at HX;have hg1:decide ((7:Int)<=(s.size:Int)-(n:Int)-(W:Int))=false:=X0 B0;exact aS
end Go.Proofs.YtbngggoccndefaaGreatDoor
end
