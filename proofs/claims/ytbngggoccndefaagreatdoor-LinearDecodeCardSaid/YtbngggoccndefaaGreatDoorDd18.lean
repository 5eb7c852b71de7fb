/-
  Laid together.
-/
import Derived.Test.YtbngggoccndefaaGreatDoorDd14
import Derived.Test.YtbngggoccndefaaGreatDoorDd17
set_option maxHeartbeats 16000000
set_option maxRecDepth 100000
set_option linter.unusedVariables false
set_option linter.unusedSimpArgs false
set_option linter.ambiguousOpen false
namespace Go.Proofs.YtbngggoccndefaaGreatDoor
open Go.Proofs.Tryz
section
open Go.RowKit
theorem Zkf (a b:ByteArray) (l r:List UInt8) (ha:a.data.toList=l) (hb:b.data.toList=r):(a.toList==b.toList)=decide (l=r):=by rw[Znk,Znk,ha,hb,Zn7,Znj,Zna]
theorem Zi3 (a b:ByteArray) (l r:List UInt8) (ha:a.data.toList=l) (hb:b.data.toList=r):(a.toList !=b.toList)= !decide (l=r):=by rw[bne,Zkf a b l r ha hb]
theorem Zew (k:Int) (s:ByteArray) (hs:s.size<=9223372036854775807) (w:World):
 Calls prog 69 #[.int .i64 k,.string s] w fun e w'=>e=.returned (strE (Ea.comp k s.data.toList))∧Ext w w':=by
 have HX:=ZmE (Ea.comp.eq_1 k s.data.toList)
 have HD:=ZmE (Zc8 s hs)
 have HZ:=ZmE (Zc9 k)
 rw[Zb]at HX
 by_cases h1:Ea.size k=0
 ·rw[ZmH h1]at HX;rw[h1]at HZ;generalize Ea.comp k s.data.toList=res at*;clear h1;go_enter func69,ntmps69;go_wp2_with fail;refine(HZ.out _).mono ?_;exact QaO
 ·rw[ZmF h1]at HX;have hkk:=Ea.kinds h1;obtain⟨hn1,hn2⟩:8<=Ea.size k∧Ea.size k<=13:=Qfo;have hn4:k=4->Ea.size k=8:=(by rintro rfl;rfl);by_cases h2:Ea.digs s.data.toList=false;(·rw[ZmH h2]at HX;rw[h2]at HD;generalize Ea.comp k s.data.toList=res at*;generalize Ea.size k=n at*;have b1:((n:Int)==0)=false:=ZmJ.2 QhN;clear h1 h2 hkk hn4;exact QgX);·have h2':Ea.digs s.data.toList=true:=QfS;have HD2:=ZmE h2';rw[ZmF h2]at HX;rw[h2']at HD;have b1:((Ea.size k:Int)==0)=false:=ZmJ.2 QhN;by_cases h3:s.size≠Ea.size k∧s.size+1≠Ea.size k;(·rw[ZmH h3]at HX;generalize Ea.comp k s.data.toList=res at*;generalize Ea.size k=n at*;have b3:((s.size:Int) !=(n:Int))=true:=Qcm;have b4:((s.size:Int) !=(n:Int)-1)=true:=Qcm;clear h1 h2 hkk hn4 h3 h2';exact QgX);·rw[ZmF h3]at HX;have h0:0<s.size:=QhN;have h00:s.data.toList.getD 0 0=s[0]:=QiL;obtain⟨m,hm⟩:∃m,Ea.size k-1=m:=⟨_,rfl⟩;have hmi:(Ea.size k:Int)-1=(m:Int):=QhN;have hms:m<=s.size:=QhN;have hm12:m<=12:=QhN;rw[h00,hm]at HX;have hs13:s.size<=13:=QhN;have HCO:=ZmE (fun w=>Zfg k (s.extract 0 m) (by intro e;rw[Zom];have:=hn4 e;omega) Qh2 (ZmE (by rw[Zr];exact Ea.digs_take h2' m)) w);rw[Zr]at HCO;obtain⟨c,hc⟩:∃c,Ea.chkOf k (s.data.toList.take m)=c:=⟨_,rfl⟩;rw[hc]at HCO HX;obtain⟨CB,hCB⟩:∃CB,Ea.bS [c]=CB:=⟨_,rfl⟩;have hCz:CB.size=1:=(by rw[<-hCB];rfl);have hTz:(s.extract 0 m).size<=12:=QdU;have hout:(s.extract 0 m++CB).data.toList=s.data.toList.take m++[c]:=(by rw[Znt,Znw,Zr,<-hCB];rfl);have HO:=ZmE hout;have HW1:=ZmE (Zi3 s (s.extract 0 m++CB) _ _ rfl hout);rw[hCB]at HCO;clear hc hCB hout hn4 h2 h2' h00;by_cases h4:k=4∧(49:UInt8)<s[0];(·rw[ZmH h4]at HX;obtain⟨rfl,h4⟩:=h4;have h4n:49<s[0].toNat:=(by rw[Zqd]at h4;exact h4);have d4:decide ((49:Int)<(s[0].toNat:Int))=true:=ZmR QhN;generalize Ea.comp 4 s.data.toList=res at*;generalize Ea.size 4=n at*;by_cases h5:s.size=n;(·have b3:((s.size:Int) !=(n:Int))=false:=Qcm;clear h1 hkk h3 h4 h5 h4n hm;exact QgX);·have b3:((s.size:Int) !=(n:Int))=true:=Qcm;have b4:((s.size:Int) !=(m:Int))=false:=Qcm;clear h1 hkk h3 h4 h5 h4n hm;exact QgX);·rw[ZmF h4]at HX;(have h49:k=4->s[0].toNat<=49:=fun e=>by have:¬(49:UInt8)<s[0]:=fun e2=>h4 ⟨e,e2⟩;rw[Zqd]at this;have e49:(49:UInt8).toNat=49:=rfl;omega);clear h4;have hk4:((k==4)=true∧decide ((49:Int)<(s[0].toNat:Int))=false)∨(k==4)=false:=(by by_cases e:k=4;(·exact .inl ⟨Znj.2 e,ZmS (by have:=h49 e;omega)⟩);·exact .inr (ZmJ.2 e));have HFE:Hid (∀res,res=(s.data.toList.take m++[c],(0:Int))->Ending.returned (.tuple #[.string (s.extract 0 m++CB),.int .i64 0])=.returned (strE res)):=ZmE (fun res e=>by rw[e];unfold strE;rw[<-HO.out,Ea.bS_of]);by_cases h5:s.size=Ea.size k;(·have b3:((s.size:Int) !=(Ea.size k:Int))=false:=Qcm;have b3':((s.size:Int)==(Ea.size k:Int))=true:=Qcm;by_cases h8:s.data.toList=s.data.toList.take m++[c];(·rw[ZmF (fun h=>h.2 h8)]at HX;rw[ZmR h8]at HW1;have HW2:(s.toList !=(s.extract 0 m++CB).toList)=false:=HW1.out;have HW3:(s.toList==(s.extract 0 m++CB).toList)=true:=(by simpa using HW2);have HG:=ZmE (HFE.out _ HX.out);clear HX HW1 HFE HO;generalize Ea.comp k s.data.toList=res at*;generalize Ea.size k=n at*;clear h1 hkk h3 h5 h8 hm h49;exact QaE);·rw[ZmH ⟨h5,h8⟩]at HX;rw[ZmS h8]at HW1;have HW2:(s.toList !=(s.extract 0 m++CB).toList)=true:=HW1.out;have HW3:(s.toList==(s.extract 0 m++CB).toList)=false:=(by simpa using HW2);clear HW1 HFE HO;generalize Ea.comp k s.data.toList=res at*;generalize Ea.size k=n at*;clear h1 hkk h3 h5 h8 hm h49;rcases hk4 with⟨d4,d5⟩|d4;all_goals go_enter func69,ntmps69;go_wp2_with fail;refine(HZ.out _).mono ?_;rintro e w1 ⟨rfl,rfl⟩;go_wp2_with fail;refine(HD.out _).mono ?_;rintro e w1 ⟨rfl,rfl⟩;go_wp2_with fail;refine Zon (C:=fun w'=>∃x:Ahead w,w'=x.at') QhO QhO (Ahead.drawn _) ?_;(try dsimp only);(repeat(first|go_big_quiet_step ((go_at_call 119;with_reducible exact Zn (HCO.out _)))|quiet_step ((go_at_call 119;with_reducible exact Zn (HCO.out _)))));refine ZoB ?_;intro _ hx0;obtain⟨x0,hx0⟩:=hx0;subst hx0;obtain⟨w8,hx8⟩:=x0;(try dsimp only);go_wp2;go_ret2;exact⟨by rw[HX.out];rfl,hx8⟩);·have b3:((s.size:Int) !=(Ea.size k:Int))=true:=Qcm;have b3':((s.size:Int)==(Ea.size k:Int))=false:=Qcm;have b4:((s.size:Int) !=(m:Int))=false:=Qcm;rw[ZmF (fun h=>h5 h.1)]at HX;have HG:=ZmE (HFE.out _ HX.out);clear HX HW1 HFE HO;generalize Ea.comp k s.data.toList=res at*;generalize Ea.size k=n at*;clear h1 hkk h3 h5 hm h49;exact QaE
theorem Zco (k:Int) (s:ByteArray) (hs:s.size<=9223372036854775807) (w:World):
 Calls prog 120 #[.int .i64 k,.string s] w fun e w'=>e=.returned (.int .i64 (Ea.full k s.data.toList))∧Ext w w':=by
 have HX:=ZmE (Ea.full.eq_1 k s.data.toList)
 have HD:=ZmE (Zc8 s hs)
 have HZ:=ZmE (Zc9 k)
 have HC:=ZmE (fun w=>Zew k s hs w)
 rw[Zb]at HX
 unfold strE at HC
 obtain⟨⟨cl,ce⟩,hc⟩:∃r,Ea.comp k s.data.toList=r:=⟨_,rfl⟩
 rw[hc]at HC HX
 dsimp only at HC HX
 generalize Ea.bS cl=CL at HC
 have hnb:Ea.size k<=13:=by unfold Ea.size;exact QdT
 generalize Ea.full k s.data.toList=res at*
 generalize Ea.digs s.data.toList=d at*
 generalize Ea.size k=n at*
 clear hc
 by_cases h:n≠0∧d=true∧s.size+1=n
 ·rw[ZmH h]at HX;obtain⟨h1,rfl,h3⟩:=h;have b1:decide (0<(n:Int))=true:=ZmR QhN;have b3:((s.size:Int)==(n:Int)-1)=true:=Znj.2 QhN;clear HC h1 h3;go_enter func120,ntmps120;go_wp2_with fail;refine(HZ.out _).mono ?_;rintro e w1 ⟨rfl,rfl⟩;go_wp2_with fail;refine(HD.out _).mono ?_;rintro e w1 ⟨rfl,rfl⟩;go_wp2_with fail;refine(HZ.out _).mono ?_;rintro e w1 ⟨rfl,rfl⟩;go_wp2;go_ret;exact Qbl
 ·rw[ZmF h]at HX;by_cases h1:n=0;(·subst h1;clear h;go_enter func120,ntmps120;go_wp2_with fail;refine(HZ.out _).mono ?_;exact Qcb);·have b1:decide (0<(n:Int))=true:=ZmR QhN;have hn1:0<n:=QhN;cases d;(·clear h h1;go_enter func120,ntmps120;go_wp2_with fail;refine(HZ.out _).mono ?_;rintro e w1 ⟨rfl,rfl⟩;go_wp2_with fail;refine(HD.out _).mono ?_;exact Qcb);·have h3:s.size+1≠n:=fun e=>h ⟨h1,rfl,e⟩;have b3:((s.size:Int)==(n:Int)-1)=false:=ZmJ.2 QhN;clear h h1 h3;go_enter func120,ntmps120;go_wp2_with fail;refine(HZ.out _).mono ?_;rintro e w1 ⟨rfl,rfl⟩;go_wp2_with fail;refine(HD.out _).mono ?_;rintro e w1 ⟨rfl,rfl⟩;go_wp2_with fail;refine(HZ.out _).mono ?_;exact Qcb
end
end Go.Proofs.YtbngggoccndefaaGreatDoor
section
namespace Go.Proofs.YtbngggoccndefaaGreatDoor
open Go.Proofs.Tryz
open Go.RowKit
theorem ZbI (v u:Value) (l m:List Bool) (w:World) (hv:SlK w v (l.map encT)) (hu:SlK w u (m.map encT)) (hl:l.length<=1000000) (hm:m.length<=1000000):
 Calls prog 256 #[v,u] w fun e w'=>e=.returned (.bool (decide (l=m)))∧Ext w w':=by
 obtain⟨hvs,a,c,rfl,_⟩:=hv
 obtain⟨hus,b,f,rfl,_⟩:=hu
 rw[ZmI]at hvs hus⊢
 rw[ZmI]
 have HV:=ZmE hvs
 have HU:=ZmE hus
 obtain⟨res,hres⟩:∃res,decide (l=m)=res:=⟨_,rfl⟩
 rw[hres]
 have HR:=ZmE hres
 clear hvs hus hres
 by_cases hlm:l.length=m.length
 ·have b0:((l.length:Int) !=(m.length:Int))=false:=Qcm;have hlm2:m.length<=l.length:=QhN;have hlm3:l.length<=m.length:=QhN;have HLM:=ZmE hlm;clear hlm;go_enter func256,ntmps256;go_wp2;go_loopw [5] (fun v5 wr=>∃k:Nat,k<=l.length∧v5=.int .i64 (k:Int)∧Hid (l.take k=m.take k)∧Ext w wr) (fun v5 _=>l.length-(intOf v5).toNat);(case atStart=>exact⟨0,ZmP _,rfl,ZmE rfl,Ext.refl _⟩);case round=>
   obtain⟨k,hk,rfl,HT,hxr⟩:=hrel;by_cases hlt:k<l.length
   ·have hkm:k<m.length:=QhN;obtain⟨p,o,ha,hpb,hpc⟩:=HV.out.at_ (k:=k) Qia;subst ha;obtain⟨q,r,hb,hqb,hqc⟩:=HU.out.at_ (k:=k) (by rw[ZmI];exact hkm);subst hb;obtain⟨x,hx⟩:∃x,l[k]=x:=⟨_,rfl⟩;obtain⟨y,hy⟩:∃y,m[k]=y:=⟨_,rfl⟩;rw[ZnO,hx]at hpc;rw[ZnO,hy]at hqc;have hc1:=(hxr.cell (p:=⟨p,o+k,none⟩) hpb).trans hpc;have hc2:=(hxr.cell (p:=⟨q,r+k,none⟩) hqb).trans hqc;unfold encT at hc1 hc2;by_cases hxy:x=y
    ·have HT2:Hid (l.take (k+1)=m.take (k+1)):=ZmE (by rw[ZnL hlt,ZnL hkm,HT.out,hx,hy,hxy])
     subst hxy
     clear hpc hqc hx hy
     cases x with
     |false=>exact Qdv
     |true=>exact Qdv
    ·have HF:Hid (res=false):=ZmE (by rw[<-HR.out,Zow];intro e;apply hxy;rw[<-hx,<-hy];subst e;rfl)
     clear hpc hqc hx hy
     cases x with
     |false=>
      cases y with
      |false=>exact absurd rfl hxy
      |true=>exact Qex
     |true=>
      cases y with
      |true=>exact absurd rfl hxy
      |false=>exact Qex
   ·obtain rfl:k=l.length:=QhN;have HF:Hid (res=true):=ZmE (by rw[<-HR.out,Zna];have:=HT.out;rw[ZnN,HLM.out,ZnN]at this;exact this);clear hk hlt;go_wp2;go_ret;exact⟨Zi HF.out.symm,hxr⟩
 ·have b0:((l.length:Int) !=(m.length:Int))=true:=Qcm;have HF:Hid (res=false):=ZmE (by rw[<-HR.out,Zow];intro e;exact hlm (Znb List.length e));clear hlm;go_enter func256,ntmps256;go_wp2;go_ret;exact⟨Zi HF.out.symm,Ext.refl _⟩
end Go.Proofs.YtbngggoccndefaaGreatDoor
namespace Go.Proofs.YtbngggoccndefaaGreatDoor
open Go.Proofs.Tryz
open Go.RowKit
theorem sym_len {k:Int} {l:List UInt8} (h:Ea.full k l=0):(Ea.sym k l).length<=95:=by
 obtain⟨h1,h2,h3,h4,_⟩:=Ea.full_ok h;rcases Ea.kinds h1 with rfl|rfl|rfl|rfl;·show(Ea.sym13 l).length<=95;rw[Ea.sym13_len h2 h3];omega
 ·show(Ea.sym8 l).length<=95;rw[Ea.sym8_len h2 h3];omega
 ·show(Ea.sym13 (48::l)).length<=95;rw[Ea.sym13_len (Ea.digs_cons QhP h2) Qjp];omega
 ·show(Ea.symE l).length<=95;rw[Ea.symE_len h2 h3 (Ea.dv2 h2 (by rw[h3];decide) (h4 rfl))];omega
end Go.Proofs.YtbngggoccndefaaGreatDoor
end
section
namespace Go.Proofs.YtbngggoccndefaaGreatDoor
open Go.Proofs.Tryz
open Go.RowKit
theorem Za {P:Program} {ops:Array Oper} {Q:Exit->Act->World->Prop} {fuel:Nat} {listed:Array Bool} {a:Act} {w:World} (i:Nat) {o:Oper} (hr:Region.ready .any ops listed=[i]) (ho:ops[i]? =some o)
 (h:∀K':Act->World->Prop,(∀a w,wpAny P .any ops Q fuel (listed.setIfInBounds i true) a w->K' a w)->if Region.wanted o (yielded ops a.tmps)=true then Oper.wp P o a w K' Q else K' (a.put o.dst undef) w):wpAny P .any ops Q (fuel+1) listed a w:=
 wpAny_ready hr QhQ (Zq3 ho h AllReady.nil)
end Go.Proofs.YtbngggoccndefaaGreatDoor
namespace Go.Proofs.YtbngggoccndefaaGreatDoor
open Go.Proofs.Tryz
open Go.RowKit
theorem ZbO:∀n:Fin 10,(Ea.chr n.1).toNat=48+n.1:=by decide
theorem ZbJ (x:Nat) (hx10:x<10) (w:World):Calls prog 259 #[.int .i64 (x:Int)] w fun e w'=>e=.returned (.string (Ea.bS [Ea.chr x]))∧Ext w w':=by have hcv:=Zb3 w (Ea.chr x) (48+(x:Int)) (by have h:=ZbO ⟨x,hx10⟩;dsimp only at h;rw[h];omega);go_enter func259,ntmps259;exact Qb1
end Go.Proofs.YtbngggoccndefaaGreatDoor
namespace Go.Proofs.YtbngggoccndefaaGreatDoor
open Go.Proofs.Tryz
open Go.RowKit
theorem ZI {w:World} {v:Value} {xs:List Value} (hs:SlK w v xs) (h:Nat) (hh:h<=xs.length):
 ∃v',(∀w',(Instr.slice 26 v none (some (.int .i64 (h:Int))) none).run prog w'=.ok v' w')∧SlK w v' (xs.take h):=by
 obtain⟨hsl,a,c,rfl,hc⟩:=hs
 refine⟨_,fun w'=> ?_,(Zar hsl hc (ZmP h) hh).congr (by rw[Zoh,ZoH])⟩
 have e:prog.elem 26=4:=Qdu
 have ht:prog.underlying 26=some (.slice (prog.elem 26)):=by rw[e];exact underlying26
 rw[run_slice_h w' 26 a xs.length c ht .i64 (h:Int) QhN QhN,e,Zbs]
 rfl
theorem Zae {w:World} {v:Value} {xs:List Value} (hs:SlK w v xs) (l:Nat) (hl:l<=xs.length):
 ∃v',(∀w',(Instr.slice 26 v (some (.int .i64 (l:Int))) none none).run prog w'=.ok v' w')∧SlK w v' (xs.drop l):=by
 obtain⟨hsl,a,c,rfl,hc⟩:=hs
 refine⟨_,fun w'=> ?_,(Zar hsl hc hl (ZmK _)).congr (by rw[ZmW Qj8])⟩
 have e:prog.elem 26=4:=Qdu
 have ht:prog.underlying 26=some (.slice (prog.elem 26)):=by rw[e];exact underlying26
 rw[run_slice_l w' 26 a xs.length c ht .i64 (l:Int) QhN QhN,e,Zbs]
 rfl
theorem Zca {α:Type} [DecidableEq α] {y:α}:∀(l:List α) (k:Nat),(∀i,i<k->l[i]?≠some y)->l[k]? =some y->Ea.idx l y=some k:=by
 intro l
 induction l with
 |nil=>intro k _ h;cases h
 |cons x l ih=>
  intro k h1 h2
  cases k with
  |zero=>simp only[Znp,Znl]at h2;rw[Ea.idx,ZmH h2]
  |succ k=>have hx:¬x=y:=fun e=>h1 0 (Nat.succ_pos _) (by rw[Znp,e]);rw[Ea.idx,ZmF hx,ih k (fun i hi=>by have:=h1 (i+1) QhN;simpa using this) Qie];rfl
theorem Zb6 {α:Type} [DecidableEq α] {y:α}:∀(l:List α),(∀i,i<l.length->l[i]?≠some y)->Ea.idx l y=none:=by
 intro l
 induction l with
 |nil=>intro _;rfl
 |cons x l ih=>intro h1;have hx:¬x=y:=fun e=>h1 0 (Nat.succ_pos _) (by rw[Znp,e]);rw[Ea.idx,ZmF hx,ih (fun i hi=>by have:=h1 (i+1) QhY;simpa using this)];rfl
theorem ZjA:∀i:Fin 10,Ea.setsL[i.1]? =some (Ea.sets13 i.1):=by decide
theorem Zbm:∀i:Fin 10,Ea.setsE0[i.1]? =some (Ea.setsE 0 i.1):=by decide
theorem Zcj:∀i:Fin 10,(Ea.setsE0.map (fun l=>l.map (fun x=>1-x)))[i.1]? =some (Ea.setsE 1 i.1):=by decide
def noV (o:Option Nat):Int:=match o with
 |some d=>(d:Int)
 |none=> -1
def noE (o:Option (Nat×Nat)):Value:=match o with
 |some (y,c)=>.tuple #[.int .i64 (y:Int),.int .i64 (c:Int)]
 |none=>.tuple #[.int .i64 (-1),.int .i64 (-1)]
theorem ZfP (s:ByteArray) (u:List Nat) (hs:s.data.toList=zS u) (hu:∀x∈u,x<10) (w:World):
 Calls prog 258 #[.string s] w fun e w'=>e=.returned (.int .i64 (noV (Ea.find13 u)))∧Ext w w':=by
 obtain⟨res,hres⟩:∃res,Ea.find13 u=res:=⟨_,rfl⟩
 rw[hres]
 have HRES:=ZmE hres
 have HS:=ZmE hs
 have HU:=ZmE hu
 clear hres hs hu
 go_enter func258,ntmps258
 go_wp2
 go_loopw [3] (fun v3 wr=>∃k:Nat,k<=10∧v3=.int .i64 (k:Int)∧Hid (∀i,i<k->Ea.setsL[i]?≠some u)∧Ext w wr) (fun v3 _=>10-(intOf v3).toNat)
 case atStart=>exact⟨0,ZmP _,rfl,ZmE (fun i hi=>absurd hi (Zo6 _)),Ext.refl _⟩
 case round=>obtain⟨k,hk,rfl,HB,hxr⟩:=hrel;by_cases hlt:k<10;(·have HC:=ZmE (fun w=>ZfQ k hlt w);obtain⟨X,hX⟩:∃X,Ea.bS (zS (Ea.sets13 k))=X:=⟨_,rfl⟩;have HQ:Hid ((X.toList==s.toList)=decide (Ea.sets13 k=u)):=ZmE (by rw[Zn7,Znj,Zna,<-hX,Znk,Znk,HS.out,Ea.bS_list];constructor;(·intro h;exact Zfk (fun x hx=>by have:=(Ea.sets13_ok ⟨k,hlt⟩).2.1 x hx;omega) HU.out h);·intro h;rw[h]);have HAT:=ZmE (ZjA ⟨k,hlt⟩);rw[hX]at HC;clear hX;go_wp2_with fail;refine(HC.out _).mono ?_;rintro e w1 ⟨rfl,hx1⟩;cases hq:(X.toList==s.toList);(·have HB2:Hid (∀i,i<k+1->Ea.setsL[i]?≠some u):=ZmE (fun i hi=>by rcases ZnY i k with h|h;(·exact HB.out i h);·obtain rfl:i=k:=QhN;have:=HQ.out;rw[hq]at this;have h3:=ZoA this.symm;rw[HAT.out];intro e;exact h3 QiV);go_wp2;go_roundw;(case rel=>exact⟨k+1,by omega,by go_num,HB2,hxr.trans hx1⟩);case measure=>exact Q8);·have HF:Hid (res=some k):=ZmE (by have:=HQ.out;rw[hq]at this;have h3:=Zok this.symm;rw[<-HRES.out];unfold Ea.find13;exact Zca _ k HB.out (by rw[HAT.out,h3]));go_wp2;go_ret;exact⟨by rw[HF.out];rfl,hxr.trans hx1⟩);·obtain rfl:k=10:=QhN;have HF:Hid (res=none):=ZmE (by rw[<-HRES.out];unfold Ea.find13;exact Zb6 _ HB.out);clear hk hlt;go_wp2;go_ret;exact⟨by rw[HF.out];rfl,hxr⟩
theorem Zfv (y c:Nat) (hy:y<2) (hc:c<10) (u:List Nat) (h0:∀i,i<10->0<y->Ea.setsE 0 i≠u) (h1:∀i,i<c->Ea.setsE y i≠u) (h2:Ea.setsE y c=u):Ea.findE u=some (y,c):=by
 have h':y=0∨y=1:=by omega
 unfold Ea.findE;rcases h' with rfl|rfl;·rw[Zca Ea.setsE0 c (fun i hi=>by rw[Zbm ⟨i,by omega⟩];intro e;exact h1 i hi QiV) (by rw[Zbm ⟨c,hc⟩,h2])]
 ·rw[Zb6 Ea.setsE0 (fun i hi=>by have hi:i<10:=hi;rw[Zbm ⟨i,hi⟩];intro e;exact h0 i hi QhN QiV)];dsimp only;rw[Zca _ c (fun i hi=>by rw[Zcj ⟨i,by omega⟩];intro e;exact h1 i hi QiV) (by rw[Zcj ⟨c,hc⟩,h2])];rfl
theorem Zfw (u:List Nat) (h0:∀y i,y<2->i<10->Ea.setsE y i≠u):Ea.findE u=none:=by unfold Ea.findE;rw[Zb6 Ea.setsE0 (fun i hi=>by have hi:i<10:=hi;rw[Zbm ⟨i,hi⟩];intro e;exact h0 0 i QhN hi QiV)];dsimp only;rw[Zb6 _ (fun i hi=>by have hi:i<10:=(by simpa[Ea.setsE0]using hi);rw[Zcj ⟨i,hi⟩];intro e;exact h0 1 i QhN hi QiV)];rfl
theorem Zdw (s:ByteArray) (u:List Nat) (hs:s.data.toList=zS u) (hu:∀x∈u,x<10) (w:World):
 Calls prog 260 #[.string s] w fun e w'=>e=.returned (noE (Ea.findE u))∧Ext w w':=by
 obtain⟨res,hres⟩:∃res,Ea.findE u=res:=⟨_,rfl⟩
 rw[hres]
 have HRES:=ZmE hres
 have HS:=ZmE hs
 have HU:=ZmE hu
 clear hres hs hu
 go_enter func260,ntmps260
 go_wp2
 go_loopw [4] (fun v4 wr=>∃y:Nat,y<=2∧v4=.int .i64 (y:Int)∧Hid (∀q i,q<y->i<10->Ea.setsE q i≠u)∧Ext w wr) (fun v4 _=>2-(intOf v4).toNat)
 case atStart=>exact⟨0,ZmP _,rfl,ZmE (fun q i hq=>absurd hq (Zo6 _)),Ext.refl _⟩
 case round=>obtain⟨y,hy,rfl,HB,hxr⟩:=hrel;by_cases hyt:y<2;(·have dy:decide ((y:Int)<2)=true:=ZmR QhN;go_wp2;go_loopw [5] (fun v5 wq=>∃k:Nat,k<=10∧v5=.int .i64 (k:Int)∧Hid (∀i,i<k->Ea.setsE y i≠u)∧Ext w wq) (fun v5 _=>10-(intOf v5).toNat);(case atStart=>exact⟨0,ZmP _,rfl,ZmE (fun i hi=>absurd hi (Zo6 _)),hxr⟩);case round=>obtain⟨k,hk,rfl,HC,hxq⟩:=hrel;by_cases hlt:k<10;(·have HSE:=ZmE (fun w=>Zhd y k hyt hlt w);obtain⟨X,hX⟩:∃X,Ea.bS (zS (Ea.setsE y k))=X:=⟨_,rfl⟩;have HQ:Hid ((X.toList==s.toList)=decide (Ea.setsE y k=u)):=ZmE (by rw[Zn7,Znj,Zna,<-hX,Znk,Znk,HS.out,Ea.bS_list];constructor;(·intro h;exact Zfk (fun x hx=>by have:=(Ea.setsE_ok ⟨y,hyt⟩ ⟨k,hlt⟩).2.1 x hx;omega) HU.out h);·intro h;rw[h]);rw[hX]at HSE;clear hX;go_wp2_with fail;refine(HSE.out _).mono ?_;rintro e w1 ⟨rfl,hx1⟩;cases hq:(X.toList==s.toList);(·have HC2:Hid (∀i,i<k+1->Ea.setsE y i≠u):=ZmE (fun i hi=>by rcases ZnY i k with h|h;(·exact HC.out i h);·obtain rfl:i=k:=QhN;have:=HQ.out;rw[hq]at this;exact ZoA this.symm);go_wp2;go_roundw;(case rel=>exact⟨k+1,by omega,by go_num,HC2,hxq.trans hx1⟩);case measure=>exact Q8);·have HF:Hid (res=some (y,k)):=ZmE (by have:=HQ.out;rw[hq]at this;have h3:=Zok this.symm;rw[<-HRES.out];exact Zfv y k hyt hlt u (fun i hi h0=>HB.out 0 i h0 hi) HC.out h3);go_wp2;go_ret2;exact⟨by rw[HF.out];rfl,hxq.trans hx1⟩);·obtain rfl:k=10:=QhN;have HB2:Hid (∀q i,q<y+1->i<10->Ea.setsE q i≠u):=ZmE (fun q i hq hi=>by rcases ZnY q y with h|h;(·exact HB.out q i h hi);·obtain rfl:q=y:=QhN;exact HC.out i hi);clear hk hlt;go_wp2;go_roundw;(case rel=>exact⟨y+1,by omega,by go_num,HB2,hxq⟩);case measure=>exact Q8);·obtain rfl:y=2:=QhN;have HF:Hid (res=none):=ZmE (by rw[<-HRES.out];exact Zfw u HB.out);clear hy hyt;go_wp2;go_ret2;exact⟨by rw[HF.out];rfl,hxr⟩
end Go.Proofs.YtbngggoccndefaaGreatDoor
namespace Go.Proofs.YtbngggoccndefaaGreatDoor
open Go.Proofs.Tryz
open Go.RowKit
def gone (o:Option (Nat×Nat)) (d t:Nat):Bool:=match o with
 |none=>false
 |some (d0,u0)=>decide (d0<d∨d0=d∧u0<t)
def goneT (o:Option (Nat×Nat)) (d t:Nat):List UInt8:=if gone o d t=true then(match o with
 |none=>[]
 |some (d0,_)=>[Ea.chr d0])else []
def goneU (o:Option (Nat×Nat)) (d t:Nat):List Nat:=if gone o d t=true then(match o with
 |none=>[]
 |some (_,u0)=>[u0])else []
theorem Zh3 (o:Option (Nat×Nat)) (d t:Nat):(goneT o d t).length<=1:=by
 unfold goneT;split;·cases o<;>simp
 ·simp
theorem Zh4 (o:Option (Nat×Nat)) (d t:Nat):(goneU o d t).length<=1:=by
 unfold goneU;split;·cases o<;>simp
 ·simp
def span (both:Bool) (t lo hi:Nat):Prop:=if both=true then lo=0∧hi=1 else lo=t∧hi=t
theorem ZbF {both:Bool} {t lo hi:Nat} (h:span both t lo hi) (u:Nat):Ea.may both t u↔lo<=u∧u<=hi:=by
 unfold span at h
 unfold Ea.may
 cases both with
 |true=>simp only[ZoG]at h⊢;omega
 |false=>simp only[ZoR,Zpr]at h⊢;omega
theorem Zg4 {both:Bool} {t lo hi:Nat} (ht:t<3) (hs:span both t lo hi) (p:List Bool):gone (Ea.look both t p) 0 lo=false:=by
 cases h:Ea.look both t p with
 |none=>rfl
 |some q=>obtain⟨d0,u0⟩:=q;have:=(ZbF hs u0).1 (Ea.look_some ht h).2.2;show decide _=false;rw[Zow];omega
theorem Zh5 {both:Bool} {t lo hi:Nat} (ht:t<3) (hs:span both t lo hi) (p:List Bool) (d:Nat):gone (Ea.look both t p) d (hi+1)=gone (Ea.look both t p) (d+1) lo:=by
 cases h:Ea.look both t p with
 |none=>rfl
 |some q=>obtain⟨d0,u0⟩:=q;have:=(ZbF hs u0).1 (Ea.look_some ht h).2.2;show decide _=decide _;rw[decide_eq_decide];omega
theorem ZiQ {both:Bool} {t lo hi:Nat} (ht:t<3) (hs:span both t lo hi) {p:List Bool} {d u:Nat} (hd:d<10) (hu:lo<=u∧u<=hi) (hp:p=Ea.modl u d):
 gone (Ea.look both t p) d u=false∧gone (Ea.look both t p) d (u+1)=true∧Ea.look both t p=some (d,u):=by
 have h:Ea.look both t p=some (d,u):=by rw[hp];exact Ea.look_of ht hd ((ZbF hs u).2 hu)
 rw[h]
 refine⟨?_,?_,rfl⟩
 ·show decide _=false;rw[Zow];omega
 ·show decide _=true;rw[Zna];omega
theorem Zkv {both:Bool} {t lo hi:Nat} (ht:t<3) (hs:span both t lo hi) {p:List Bool} {d u:Nat} (hd:d<10) (hu:lo<=u∧u<=hi) (hp:p≠Ea.modl u d):
 gone (Ea.look both t p) d (u+1)=gone (Ea.look both t p) d u:=by
 cases h:Ea.look both t p with
 |none=>rfl
 |some q=>obtain⟨d0,u0⟩:=q;have h2:=Ea.look_uniq ht h hd ((ZbF hs u).2 hu);have h3:¬(d=d0∧u=u0):=fun e=>hp (h2.2 e);show decide _=decide _;rw[decide_eq_decide];omega
theorem ZiP {both:Bool} {t lo:Nat} (ht:t<3) (p:List Bool):gone (Ea.look both t p) 10 lo=(Ea.look both t p).isSome:=by
 cases h:Ea.look both t p with
 |none=>rfl
 |some q=>obtain⟨d0,u0⟩:=q;have:=(Ea.look_some ht h).1;show decide _=true;rw[Zna];omega
structure Found (p:List Bool) (lo hi:Nat) (ds:List UInt8) (us:List Nat) (r:Option (Nat×Nat))where
 X:Nat->Nat->ByteArray
 Y:Nat->Nat->ByteArray
 B:Nat->Nat->Bool
 start:X 0 lo=Ea.bS ds∧Y 0 lo=Ea.bS (zS us)∧B 0 lo=false
 yes:∀d u,d<10->lo<=u->u<=hi->decide (p=Ea.modl u d)=true->X d (u+1)=X d u++Ea.bS [Ea.chr d]∧Y d (u+1)=Y d u++Ea.bS [Ea.chr u]∧B d (u+1)=true
 no:∀d u,d<10->lo<=u->u<=hi->decide (p=Ea.modl u d)=false->X d (u+1)=X d u∧Y d (u+1)=Y d u∧B d (u+1)=B d u
 next:∀d,X d (hi+1)=X (d+1) lo∧Y d (hi+1)=Y (d+1) lo∧B d (hi+1)=B (d+1) lo
 stop:B 10 lo=r.isSome∧∀d u,r=some (d,u)->X 10 lo=Ea.bS (ds++[Ea.chr d])∧Y 10 lo=Ea.bS (zS (us++[u]))
 small:∀d u,(X d u).size<=ds.length+1∧(Y d u).size<=us.length+1
theorem Zlg (a b:List UInt8):Ea.bS (a++b)=Ea.bS a++Ea.bS b:=by apply Zh;rw[Znt,Znw];rfl
theorem ZiK {both:Bool} {t lo hi:Nat} (ht:t<3) (hs:span both t lo hi) (p:List Bool) (ds:List UInt8) (us:List Nat):Nonempty (Found p lo hi ds us (Ea.look both t p)):=by
 have hT:∀d u d1 u1,gone (Ea.look both t p) d u=gone (Ea.look both t p) d1 u1->goneT (Ea.look both t p) d u=goneT (Ea.look both t p) d1 u1∧goneU (Ea.look both t p) d u=goneU (Ea.look both t p) d1 u1:=by intro d u d1 u1 e;unfold goneT goneU;rw[e];exact Qbg
 refine⟨⟨fun d u=>Ea.bS (ds++goneT (Ea.look both t p) d u),fun d u=>Ea.bS (zS (us++goneU (Ea.look both t p) d u)),fun d u=>gone (Ea.look both t p) d u,?_,?_,?_,?_,?_,?_⟩⟩;·have h:=Zg4 ht hs p;unfold goneT goneU;rw[h];simp
 ·intro d u hd h1 h2 hp;obtain⟨g1,g2,g3⟩:=ZiQ ht hs hd ⟨h1,h2⟩ (Zok hp);unfold goneT goneU;rw[g1,g2,g3];simp only[ZoG,ZoR,Zpr,ZnC,Zma,Zlg];exact Qeo
 ·intro d u hd h1 h2 hp;have h:=Zkv ht hs hd ⟨h1,h2⟩ (ZoA hp);obtain⟨e1,e2⟩:=hT _ _ _ _ h;rw[e1,e2,h];exact Qeo
 ·intro d;have h:=Zh5 ht hs p d;obtain⟨e1,e2⟩:=hT _ _ _ _ h;rw[e1,e2,h];exact Qeo
 ·have h:=ZiP (lo:=lo) (both:=both) ht p;refine⟨h,fun d u e=> ?_⟩;unfold goneT goneU;rw[h,e];exact Qbg
 ·intro d u;have h1:=Zh3 (Ea.look both t p) d u;have h2:=Zh4 (Ea.look both t p) d u;constructor;(·rw[Zc (Ea.bS_list _),ZmM];omega);·rw[Zc (Ea.bS_list _),Zmb,ZmM];omega
def readV (r:Option (List UInt8×List Nat)):Value:=match r with
 |none=>.tuple #[.string (Ea.bS []),.string (Ea.bS [])]
 |some (l,u)=>.tuple #[.string (Ea.bS l),.string (Ea.bS (zS u))]
theorem Zat (v:Value) (m:List Bool) (at' n gap t lo hi:Nat) (both:Bool) (w:World) (hv:SlK w v (m.map encT)) (hn:n<=6) (hg:gap<=2) (ht:t<3) (hsp:span both t lo hi) (hlen:at'+n*(7+gap)<=m.length+gap) (hm:m.length<=1000000):
 Calls prog 257 #[v,.int .i64 (at':Int),.int .i64 (n:Int),.int .i64 (gap:Int),.int .i64 (lo:Int),.int .i64 (hi:Int)] w fun e w'=>e=.returned (readV (Ea.rcg both t gap n (m.drop at')))∧Ext w w':=by
 obtain⟨res,hres⟩:∃res,Ea.rcg both t gap n (m.drop at')=res:=⟨_,rfl⟩
 rw[hres]
 have HRES:=ZmE hres
 have HV:=ZmE hv
 have hhi:hi<=2:=by unfold span at hsp;split at hsp<;>omega
 have HSP:=ZmE hsp
 have hat:at'<=1000100:=by omega
 have HLEN:=ZmE hlen
 obtain⟨_,a,c,rfl,hc⟩:=hv
 rw[ZmI]at HV hc⊢
 clear hres hsp hlen
 go_enter func257,ntmps257
 go_wp2
 go_loopw [14,15,16] (fun v14 v15 v16 wr=>∃(k:Nat) (D T:ByteArray) (ds:List UInt8) (us:List Nat),k<=n∧v14=.string D∧v15=.string T∧v16=.int .i64 (k:Int)∧Hid (D=Ea.bS ds∧T=Ea.bS (zS us)∧ds.length=k∧us.length=k)∧Hid (res=Ea.sofar (Ea.rcg both t gap (n-k) (m.drop (at'+k*(7+gap)))) ds us)∧Ext w wr) (fun _ _ v16 _=>n-(intOf v16).toNat)
 case atStart=>exact⟨0,⟨#[]⟩,⟨#[]⟩,[],[],ZmP _,rfl,rfl,rfl,ZmE ⟨rfl,rfl,rfl,rfl⟩,ZmE (by rw[Ea.sofar_nil,ZoH,Nat.zero_mul,Zoc];exact HRES.out.symm),Ext.refl w⟩
 case round=>
  obtain⟨k,D,T,ds,us,hk,rfl,rfl,rfl,HDT,HR,hxr⟩:=hrel;by_cases hlt:k<n
  ·have hkn:decide ((k:Int)<(n:Int))=true:=ZmR QhN;obtain⟨x,hx⟩:∃x,k*(7+gap)=x:=⟨_,rfl⟩;have hxi:(k:Int)*(7+(gap:Int))=(x:Int):=(by rw[<-hx];push_cast;rfl);have hx54:x<=54:=(by rw[<-hx];exact ZnF (ZoN (show k<=6 by omega) (show 7+gap<=9 by omega)) QhP);obtain⟨y,hy⟩:∃y,at'+x=y:=⟨_,rfl⟩;have hyi:(at':Int)+(x:Int)=(y:Int):=QhN;obtain⟨z,hz⟩:∃z,y+7=z:=⟨_,rfl⟩;have hzi:(y:Int)+7=(z:Int):=QhN;have hzm:z<=m.length:=(by have h1:(k+1)*(7+gap)<=n*(7+gap):=ZoN hlt (ZmK _);have h2:(k+1)*(7+gap)=x+(7+gap):=(by rw[Nat.succ_mul,hx]);have:=HLEN.out;omega);obtain⟨pv,hp1,hp2⟩:=Z7 HV.out y z QhN (by rw[ZmI];exact hzm);rw[<-Zn6,<-Zn5,show z-y=7 by omega]at hp2;obtain⟨p,hpp⟩:∃p,(m.drop y).take 7=p:=⟨_,rfl⟩;rw[hpp]at hp2;have hpl:p.length=7:=(by rw[<-hpp,ZmY,Znr];omega);obtain⟨F⟩:=ZiK ht HSP.out p ds us;have HF1:=ZmE F.start;have HF2:=ZmE F.yes;have HF3:=ZmE F.no;have HF4:=ZmE F.next;have HF5:=ZmE F.stop;have HF6:=ZmE F.small;obtain⟨X,hX⟩:∃X,F.X=X:=⟨_,rfl⟩;obtain⟨Y,hY⟩:∃Y,F.Y=Y:=⟨_,rfl⟩;obtain⟨B,hB⟩:∃B,F.B=B:=⟨_,rfl⟩;rw[hX,hY,hB]at HF1 HF2 HF3 HF4 HF5;rw[hX,hY]at HF6;have HP:=ZmE hp2;have HPL:=ZmE hpl;have HXX:Hid (k*(7+gap)=x∧at'+x=y∧y+7=z∧(m.drop y).take 7=p):=ZmE ⟨hx,hy,hz,hpp⟩;have HL:Hid (Ea.look both t p=Ea.look both t ((m.drop (at'+k*(7+gap))).take 7)):=ZmE (by rw[hx,hy,hpp]);obtain⟨lk,hlk⟩:∃lk,Ea.look both t p=lk:=⟨_,rfl⟩;rw[hlk]at HF5 HL;clear hX hY hB hp2 hpl hx hy hz hpp hlk F;have HS6:Hid (∀d u,(X d u).size<=7∧(Y d u).size<=7):=ZmE (fun d u=>by have:=HF6.out d u;have h3:=HDT.out;omega);have hD:D=X 0 lo:=(by rw[HF1.out.1];exact HDT.out.1);have hT:T=Y 0 lo:=(by rw[HF1.out.2.1];exact HDT.out.2.1);subst hD hT;have hB0:B 0 lo=false:=HF1.out.2.2;clear HF1 HF6;go_wp2_with fail;go_loopw [14,15,18,19] (fun v14 v15 v18 v19 wq=>∃d:Nat,d<=10∧v14=.string (X d lo)∧v15=.string (Y d lo)∧v18=.bool (B d lo)∧v19=.int .i64 (d:Int)∧Ext w wq) (fun _ _ _ v19 _=>10-(intOf v19).toNat);(case atStart=>exact⟨0,ZmP _,rfl,rfl,by rw[hB0],rfl,hxr⟩);case round=>
    obtain⟨d,hd,rfl,rfl,rfl,rfl,hxq⟩:=hrel;by_cases hdt:d<10;(·have hdd:decide ((d:Int)<10)=true:=ZmR QhN;go_wp2_with fail;go_loopw [14,15,18,20] (fun v14 v15 v18 v20 ws=>∃u:Nat,lo<=u∧u<=hi+1∧v14=.string (X d u)∧v15=.string (Y d u)∧v18=.bool (B d u)∧v20=.int .i64 (u:Int)∧Ext w ws) (fun _ _ _ v20 _=>hi+1-(intOf v20).toNat);(case atStart=>exact⟨lo,ZmK _,by have:=HSP.out;unfold span at this;split at this<;>omega,rfl,rfl,rfl,rfl,hxq⟩);case round=>obtain⟨u,hul,huh,rfl,rfl,rfl,rfl,hxs⟩:=hrel;by_cases hut:u<=hi;(·have hud:decide ((u:Int)<=(hi:Int))=true:=ZmR QhN;have HTB:=ZmE (fun w=>Zhj d u hdt QhN w);have HY:=HF2.out d u hdt hul hut;have HN:=HF3.out d u hdt hul hut;have hs1:=HS6.out d u;obtain⟨hs1,hs2⟩:=hs1;have hml:(Ea.modl u d).length<=1000000:=(by have:=Zce ⟨u,by omega⟩ ⟨d,hdt⟩;dsimp only at this;omega);have HML:=ZmE hml;generalize Ea.modl u d=md at*;cases hq:decide (p=md);(·obtain⟨n1,n2,n3⟩:=HN hq;have HNN:=ZmE (And.intro n1 (And.intro n2 n3));clear HY HN n1 n2 n3 hml;go_wp2_with fail;refine(HTB.out _).mono ?_;rintro e w1 ⟨tv,rfl,hown,hx1⟩;have HE:=ZmE (ZbI pv tv p md w1 ((HP.out.ext hxs).ext hx1) hown.slk (by have:=HPL.out;omega) HML.out);rw[hq]at HE;clear hq;go_wp2_with fail;refine HE.out.mono ?_;rintro e w2 ⟨rfl,hx2⟩;go_wp2;go_roundw;(case rel=>exact⟨u+1,by omega,by omega,by rw[HNN.out.1],by rw[HNN.out.2.1],by rw[HNN.out.2.2],by go_num,(hxs.trans hx1).trans hx2⟩);case measure=>exact Q8);·obtain⟨n1,n2,n3⟩:=HY hq;have HNN:=ZmE (And.intro n1 (And.intro n2 n3));clear HY HN n1 n2 n3 hml;go_wp2_with fail;refine(HTB.out _).mono ?_;rintro e w1 ⟨tv,rfl,hown,hx1⟩;have HE:=ZmE (ZbI pv tv p md w1 ((HP.out.ext hxs).ext hx1) hown.slk (by have:=HPL.out;omega) HML.out);rw[hq]at HE;clear hq;go_wp2_with fail;refine HE.out.mono ?_;rintro e w2 ⟨rfl,hx2⟩;have hcv1:=Zb3 w2 (Ea.chr d) (48+(d:Int)) (by have h:=ZbO ⟨d,hdt⟩;dsimp only at h;rw[h];omega);have hcv2:=Zb3 (w2.alloc (.cells #[.int .u8 (48+(d:Int))] 5)) (Ea.chr u) (48+(u:Int)) (by have h:=ZbO ⟨u,by omega⟩;dsimp only at h;rw[h];omega);rw[show(w2.alloc (.cells #[.int .u8 (48+(d:Int))] 5)).heap.size=w2.heap.size+1 by simp]at hcv2;have hz1:(Ea.bS [Ea.chr d]).size=1:=rfl;have hz2:(Ea.bS [Ea.chr u]).size=1:=rfl;generalize Ea.bS [Ea.chr d]=CD at*;generalize Ea.bS [Ea.chr u]=CU at*;have HXE:=ZmE ((((hxs.trans hx1).trans hx2).alloc (.cells #[.int .u8 (48+(d:Int))] 5)).alloc (.cells #[.int .u8 (48+(u:Int))] 5));clear hxs hx1 hx2;go_wp2;go_roundw;(case rel=>exact⟨u+1,by omega,by omega,by rw[HNN.out.1],by rw[HNN.out.2.1],by rw[HNN.out.2.2],by go_num,HXE.out⟩);case measure=>exact Q8);·obtain rfl:u=hi+1:=QhN;have hud:decide (((hi+1:Nat):Int)<=(hi:Int))=false:=ZmS QhN;obtain⟨e1,e2,e3⟩:=HF4.out d;rw[e1,e2,e3];clear e1 e2 e3 hul huh hut;generalize((hi+1:Nat):Int)=hh at*;go_wp2;go_roundw;(case rel=>exact⟨d+1,by omega,rfl,rfl,rfl,by go_num,hxs⟩);case measure=>exact Q8)
    ·obtain rfl:d=10:=by omega
     have hdd:decide (((10:Nat):Int)<10)=false:=by decide
     obtain⟨b,hb⟩:∃b,B 10 lo=b:=⟨_,rfl⟩
     rw[hb]at HF5⊢
     clear hd hdt hb
     cases hlo:lk with
     |none=>rw[hlo]at HF5 HL;have hbf:b=false:=HF5.out.1;subst hbf;have HG:Hid (res=none):=ZmE (by obtain⟨q,hq⟩:∃q,n-k=q+1:=⟨n-k-1,by omega⟩;rw[HR.out,hq,Ea.rcg_none (by rw[<-HL.out])];rfl);clear HF5;go_wp2;go_ret2;exact⟨by rw[HG.out];rfl,hxq⟩
     |some q=>obtain⟨d0,u0⟩:=q;rw[hlo]at HF5 HL;have hbf:b=true:=HF5.out.1;subst hbf;obtain⟨e1,e2⟩:=HF5.out.2 d0 u0 rfl;have HE1:Hid (X 10 lo=Ea.bS (ds++[Ea.chr d0])∧Y 10 lo=Ea.bS (zS (us++[u0]))∧(ds++[Ea.chr d0]).length=k+1∧(us++[u0]).length=k+1):=ZmE ⟨e1,e2,by rw[ZmM,HDT.out.2.2.1];rfl,by rw[ZmM,HDT.out.2.2.2];rfl⟩;have HR2:Hid (res=Ea.sofar (Ea.rcg both t gap (n-(k+1)) (m.drop (at'+(k+1)*(7+gap)))) (ds++[Ea.chr d0]) (us++[u0])):=ZmE (by rw[HR.out,show n-k=(n-(k+1))+1 by omega,Ea.rcg_some (by rw[<-HL.out]),Zoi,show at'+(k+1)*(7+gap)=at'+k*(7+gap)+(7+gap) by rw[Nat.succ_mul];omega]);clear HF5 e1 e2;go_wp2;go_roundw;(case rel=>exact⟨k+1,_,_,_,_,by omega,rfl,rfl,by go_num,HE1,HR2,hxq⟩);case measure=>exact Q8
  ·obtain rfl:k=n:=QhN;have hkn:decide ((k:Int)<(k:Int))=false:=ZmS QhN;have HG:Hid (res=some (ds,us)):=ZmE (by rw[HR.out,ZnM,Ea.rcg,Ea.sofar_end]);have HD2:Hid (D=Ea.bS ds∧T=Ea.bS (zS us)):=ZmE ⟨HDT.out.1,HDT.out.2.1⟩;clear hk hlt HR;go_wp2;go_ret2;exact⟨by rw[HG.out];unfold readV;dsimp only;rw[<-HD2.out.1,<-HD2.out.2];rfl,hxr⟩
end Go.Proofs.YtbngggoccndefaaGreatDoor
end
