/-
  Laid.
-/
import Derived.Test.YtbngggoccndefaaGreatDoorUn09
set_option maxHeartbeats 16000000
set_option maxRecDepth 100000
set_option linter.all false
namespace Go.Proofs.YtbngggoccndefaaGreatDoor
open Go.Proofs.Tryz
section
open Go.RowKit
theorem Zmu (a b:ByteArray) (l r:List UInt8) (ha:a.data.toList=l) (hb:b.data.toList=r):(a.toList==b.toList)=decide (l=r):=by rw[C2,C2,ha,hb,C4,Y0,Y1]
theorem ZkF (a b:ByteArray) (l r:List UInt8) (ha:a.data.toList=l) (hb:b.data.toList=r):(a.toList !=b.toList)= !decide (l=r):=by rw[bne,Zmu a b l r ha hb]
theorem ZfS (k:Int) (s:ByteArray) (hs:s.size<=9223372036854775807) (w:World):
 Calls prog 69 #[.int .i64 k,.string s] w fun e w'=>e=.returned (strE (Ea.comp k s.data.toList))∧Ext w w':=by
 have HX:=A0 (Ea.comp.eq_1 k s.data.toList)
 have HD:=A0 (dE s hs)
 have HZ:=A0 (dG k)
 rw[Zd]at HX
 by_cases h1:Ea.size k=0
 ·rw[D0 h1]at HX;rw[h1]at HZ;generalize Ea.comp k s.data.toList=res at*;clear h1;go_enter func69,ntmps69;go_wp2_with fail;refine(HZ.out _).mono ?_;exact DD
 ·rw[C0 h1]at HX;have hkk:=Ea.kinds h1;obtain⟨hn1,hn2⟩:8<=Ea.size k∧Ea.size k<=13:=DE;have hn4:k=4->Ea.size k=8:=(by rintro rfl;rfl);by_cases h2:Ea.digs s.data.toList=false;(·rw[D0 h2]at HX;rw[h2]at HD;generalize Ea.comp k s.data.toList=res at*;generalize Ea.size k=n at*;have b1:((n:Int)==0)=false:=N0.2 B0;clear h1 h2 hkk hn4;exact KA);·have h2':Ea.digs s.data.toList=true:=B8;have HD2:=A0 h2';rw[C0 h2]at HX;rw[h2']at HD;have b1:((Ea.size k:Int)==0)=false:=N0.2 B0;by_cases h3:s.size≠Ea.size k∧s.size+1≠Ea.size k;(·rw[D0 h3]at HX;generalize Ea.comp k s.data.toList=res at*;generalize Ea.size k=n at*;have b3:((s.size:Int) !=(n:Int))=true:=S0;have b4:((s.size:Int) !=(n:Int)-1)=true:=S0;clear h1 h2 hkk hn4 h3 h2';exact KA);·rw[C0 h3]at HX;have h0:0<s.size:=B0;have h00:s.data.toList.getD 0 0=s[0]:=vG;obtain⟨m,hm⟩:∃m,Ea.size k-1=m:=⟨_,rfl⟩;have hmi:(Ea.size k:Int)-1=(m:Int):=B0;have hms:m<=s.size:=B0;have hm12:m<=12:=B0;rw[h00,hm]at HX;have hs13:s.size<=13:=B0;have HCO:=A0 (fun w=>ZgS k (s.extract 0 m) (by intro e;rw[S9];have:=hn4 e;omega) YD (A0 (by rw[Zy];exact Ea.digs_take h2' m)) w);rw[Zy]at HCO;obtain⟨c,hc⟩:∃c,Ea.chkOf k (s.data.toList.take m)=c:=⟨_,rfl⟩;rw[hc]at HCO HX;obtain⟨CB,hCB⟩:∃CB,Ea.bS [c]=CB:=⟨_,rfl⟩;have hCz:CB.size=1:=(by rw[<-hCB];rfl);have hTz:(s.extract 0 m).size<=12:=UU;have hout:(s.extract 0 m++CB).data.toList=s.data.toList.take m++[c]:=(by rw[Y3,F4,Zy,<-hCB];rfl);have HO:=A0 hout;have HW1:=A0 (ZkF s (s.extract 0 m++CB) _ _ rfl hout);rw[hCB]at HCO;clear hc hCB hout hn4 h2 h2' h00;by_cases h4:k=4∧(49:UInt8)<s[0];(·rw[D0 h4]at HX;obtain⟨rfl,h4⟩:=h4;have h4n:49<s[0].toNat:=(by rw[EN]at h4;exact h4);have d4:decide ((49:Int)<(s[0].toNat:Int))=true:=V0 B0;generalize Ea.comp 4 s.data.toList=res at*;generalize Ea.size 4=n at*;by_cases h5:s.size=n;(·have b3:((s.size:Int) !=(n:Int))=false:=S0;clear h1 hkk h3 h4 h5 h4n hm;exact KA);·have b3:((s.size:Int) !=(n:Int))=true:=S0;have b4:((s.size:Int) !=(m:Int))=false:=S0;clear h1 hkk h3 h4 h5 h4n hm;exact KA);·rw[C0 h4]at HX;(have h49:k=4->s[0].toNat<=49:=fun e=>by have:¬(49:UInt8)<s[0]:=fun e2=>h4 ⟨e,e2⟩;rw[EN]at this;have e49:(49:UInt8).toNat=49:=rfl;omega);clear h4;have hk4:((k==4)=true∧decide ((49:Int)<(s[0].toNat:Int))=false)∨(k==4)=false:=(by by_cases e:k=4;(·exact .inl ⟨Y0.2 e,X0 (by have:=h49 e;omega)⟩);·exact .inr (N0.2 e));have HFE:Hid (∀res,res=(s.data.toList.take m++[c],(0:Int))->Ending.returned (.tuple #[.string (s.extract 0 m++CB),.int .i64 0])=.returned (strE res)):=A0 (fun res e=>by rw[e];unfold strE;rw[<-HO.out,Ea.bS_of]);by_cases h5:s.size=Ea.size k;(·have b3:((s.size:Int) !=(Ea.size k:Int))=false:=S0;have b3':((s.size:Int)==(Ea.size k:Int))=true:=S0;by_cases h8:s.data.toList=s.data.toList.take m++[c];(·rw[C0 (fun h=>h.2 h8)]at HX;rw[V0 h8]at HW1;have HW2:(s.toList !=(s.extract 0 m++CB).toList)=false:=HW1.out;have HW3:(s.toList==(s.extract 0 m++CB).toList)=true:=(by simpa using HW2);have HG:=A0 (HFE.out _ HX.out);clear HX HW1 HFE HO;generalize Ea.comp k s.data.toList=res at*;generalize Ea.size k=n at*;clear h1 hkk h3 h5 h8 hm h49;exact dQ);·rw[D0 ⟨h5,h8⟩]at HX;rw[X0 h8]at HW1;have HW2:(s.toList !=(s.extract 0 m++CB).toList)=true:=HW1.out;have HW3:(s.toList==(s.extract 0 m++CB).toList)=false:=(by simpa using HW2);clear HW1 HFE HO;generalize Ea.comp k s.data.toList=res at*;generalize Ea.size k=n at*;clear h1 hkk h3 h5 h8 hm h49;rcases hk4 with⟨d4,d5⟩|d4;all_goals go_enter func69,ntmps69;go_wp2_with fail;refine(HZ.out _).mono ?_;rintro e w1 ⟨rfl,rfl⟩;go_wp2_with fail;refine(HD.out _).mono ?_;rintro e w1 ⟨rfl,rfl⟩;go_wp2_with fail;refine D6 (C:=fun w'=>∃x:Zx w,w'=x.at') G0 G0 (Zx.drawn _) ?_;(try dsimp only);(repeat(first|go_big_quiet_step ((go_at_call 119;with_reducible exact Zu (HCO.out _)))|quiet_step ((go_at_call 119;with_reducible exact Zu (HCO.out _)))));refine E6 ?_;intro _ hx0;obtain⟨x0,hx0⟩:=hx0;subst hx0;obtain⟨w8,hx8⟩:=x0;(try dsimp only);go_wp2;go_ret2;exact⟨by rw[HX.out];rfl,hx8⟩);·have b3:((s.size:Int) !=(Ea.size k:Int))=true:=S0;have b3':((s.size:Int)==(Ea.size k:Int))=false:=S0;have b4:((s.size:Int) !=(m:Int))=false:=S0;rw[C0 (fun h=>h5 h.1)]at HX;have HG:=A0 (HFE.out _ HX.out);clear HX HW1 HFE HO;generalize Ea.comp k s.data.toList=res at*;generalize Ea.size k=n at*;clear h1 hkk h3 h5 hm h49;exact dQ
theorem BK (k:Int) (s:ByteArray) (hs:s.size<=9223372036854775807) (w:World):
 Calls prog 120 #[.int .i64 k,.string s] w fun e w'=>e=.returned (.int .i64 (Ea.full k s.data.toList))∧Ext w w':=by
 have HX:=A0 (Ea.full.eq_1 k s.data.toList)
 have HD:=A0 (dE s hs)
 have HZ:=A0 (dG k)
 have HC:=A0 (fun w=>ZfS k s hs w)
 rw[Zd]at HX
 unfold strE at HC
 obtain⟨⟨cl,ce⟩,hc⟩:∃r,Ea.comp k s.data.toList=r:=⟨_,rfl⟩
 rw[hc]at HC HX
 dsimp only at HC HX
 generalize Ea.bS cl=CL at HC
 have hnb:Ea.size k<=13:=by unfold Ea.size;exact M8
 generalize Ea.full k s.data.toList=res at*
 generalize Ea.digs s.data.toList=d at*
 generalize Ea.size k=n at*
 clear hc
 by_cases h:n≠0∧d=true∧s.size+1=n
 ·rw[D0 h]at HX;obtain⟨h1,rfl,h3⟩:=h;have b1:decide (0<(n:Int))=true:=V0 B0;have b3:((s.size:Int)==(n:Int)-1)=true:=Y0.2 B0;clear HC h1 h3;go_enter func120,ntmps120;go_wp2_with fail;refine(HZ.out _).mono ?_;rintro e w1 ⟨rfl,rfl⟩;go_wp2_with fail;refine(HD.out _).mono ?_;rintro e w1 ⟨rfl,rfl⟩;go_wp2_with fail;refine(HZ.out _).mono ?_;rintro e w1 ⟨rfl,rfl⟩;go_wp2;go_ret;exact BL
 ·rw[C0 h]at HX;by_cases h1:n=0;(·subst h1;clear h;go_enter func120,ntmps120;go_wp2_with fail;refine(HZ.out _).mono ?_;exact BM);·have b1:decide (0<(n:Int))=true:=V0 B0;have hn1:0<n:=B0;cases d;(·clear h h1;go_enter func120,ntmps120;go_wp2_with fail;refine(HZ.out _).mono ?_;rintro e w1 ⟨rfl,rfl⟩;go_wp2_with fail;refine(HD.out _).mono ?_;exact BM);·have h3:s.size+1≠n:=fun e=>h ⟨h1,rfl,e⟩;have b3:((s.size:Int)==(n:Int)-1)=false:=N0.2 B0;clear h h1 h3;go_enter func120,ntmps120;go_wp2_with fail;refine(HZ.out _).mono ?_;rintro e w1 ⟨rfl,rfl⟩;go_wp2_with fail;refine(HD.out _).mono ?_;rintro e w1 ⟨rfl,rfl⟩;go_wp2_with fail;refine(HZ.out _).mono ?_;exact BM
end
end Go.Proofs.YtbngggoccndefaaGreatDoor
section
namespace Go.Proofs.YtbngggoccndefaaGreatDoor
open Go.Proofs.Tryz
open Go.RowKit
theorem BN (v u:Value) (l m:List Bool) (w:World) (hv:SlK w v (l.map encT)) (hu:SlK w u (m.map encT)) (hl:l.length<=1000000) (hm:m.length<=1000000):
 Calls prog 256 #[v,u] w fun e w'=>e=.returned (.bool (decide (l=m)))∧Ext w w':=by
 obtain⟨hvs,a,c,rfl,_⟩:=hv
 obtain⟨hus,b,f,rfl,_⟩:=hu
 rw[J0]at hvs hus⊢
 rw[J0]
 have HV:=A0 hvs
 have HU:=A0 hus
 obtain⟨res,hres⟩:∃res,decide (l=m)=res:=⟨_,rfl⟩
 rw[hres]
 have HR:=A0 hres
 clear hvs hus hres
 by_cases hlm:l.length=m.length
 ·have b0:((l.length:Int) !=(m.length:Int))=false:=S0;have hlm2:m.length<=l.length:=B0;have hlm3:l.length<=m.length:=B0;have HLM:=A0 hlm;clear hlm;go_enter func256,ntmps256;go_wp2;go_loopw [5] (fun v5 wr=>∃k:Nat,k<=l.length∧v5=.int .i64 (k:Int)∧Hid (l.take k=m.take k)∧Ext w wr) (fun v5 _=>l.length-(intOf v5).toNat);(case atStart=>exact⟨0,O0 _,rfl,A0 rfl,Ext.refl _⟩);case round=>
   obtain⟨k,hk,rfl,HT,hxr⟩:=hrel;by_cases hlt:k<l.length
   ·have hkm:k<m.length:=B0;obtain⟨p,o,ha,hpb,hpc⟩:=HV.out.at_ (k:=k) XY;subst ha;obtain⟨q,r,hb,hqb,hqc⟩:=HU.out.at_ (k:=k) (by rw[J0];exact hkm);subst hb;obtain⟨x,hx⟩:∃x,l[k]=x:=⟨_,rfl⟩;obtain⟨y,hy⟩:∃y,m[k]=y:=⟨_,rfl⟩;rw[E5,hx]at hpc;rw[E5,hy]at hqc;have hc1:=(hxr.cell (p:=⟨p,o+k,none⟩) hpb).trans hpc;have hc2:=(hxr.cell (p:=⟨q,r+k,none⟩) hqb).trans hqc;unfold encT at hc1 hc2;by_cases hxy:x=y
    ·have HT2:Hid (l.take (k+1)=m.take (k+1)):=A0 (by rw[V8 hlt,V8 hkm,HT.out,hx,hy,hxy])
     subst hxy
     clear hpc hqc hx hy
     cases x with
     |false=>exact dR
     |true=>exact dR
    ·have HF:Hid (res=false):=A0 (by rw[<-HR.out,WB];intro e;apply hxy;rw[<-hx,<-hy];subst e;rfl)
     clear hpc hqc hx hy
     cases x with
     |false=>
      cases y with
      |false=>exact absurd rfl hxy
      |true=>exact dS
     |true=>
      cases y with
      |true=>exact absurd rfl hxy
      |false=>exact dS
   ·obtain rfl:k=l.length:=B0;have HF:Hid (res=true):=A0 (by rw[<-HR.out,Y1];have:=HT.out;rw[J5,HLM.out,J5]at this;exact this);clear hk hlt;go_wp2;go_ret;exact⟨Zm HF.out.symm,hxr⟩
 ·have b0:((l.length:Int) !=(m.length:Int))=true:=S0;have HF:Hid (res=false):=A0 (by rw[<-HR.out,WB];intro e;exact hlm (R0 List.length e));clear hlm;go_enter func256,ntmps256;go_wp2;go_ret;exact⟨Zm HF.out.symm,Ext.refl _⟩
end Go.Proofs.YtbngggoccndefaaGreatDoor
namespace Go.Proofs.YtbngggoccndefaaGreatDoor
open Go.Proofs.Tryz
open Go.RowKit
theorem sym_len {k:Int} {l:List UInt8} (h:Ea.full k l=0):(Ea.sym k l).length<=95:=by
 obtain⟨h1,h2,h3,h4,_⟩:=Ea.full_ok h;rcases Ea.kinds h1 with rfl|rfl|rfl|rfl;·show(Ea.sym13 l).length<=95;rw[Ea.sym13_len h2 h3];omega
 ·show(Ea.sym8 l).length<=95;rw[Ea.sym8_len h2 h3];omega
 ·show(Ea.sym13 (48::l)).length<=95;rw[Ea.sym13_len (Ea.digs_cons I0 h2) EG];omega
 ·show(Ea.symE l).length<=95;rw[Ea.symE_len h2 h3 (Ea.dv2 h2 (by rw[h3];decide) (h4 rfl))];omega
end Go.Proofs.YtbngggoccndefaaGreatDoor
end
section
namespace Go.Proofs.YtbngggoccndefaaGreatDoor
open Go.Proofs.Tryz
open Go.RowKit
theorem Zb {P:Program} {ops:Array Oper} {Q:Exit->Act->World->Prop} {fuel:Nat} {listed:Array Bool} {a:Act} {w:World} (i:Nat) {o:Oper} (hr:Region.ready .any ops listed=[i]) (ho:ops[i]? =some o)
 (h:∀K':Act->World->Prop,(∀a w,wpAny P .any ops Q fuel (listed.setIfInBounds i true) a w->K' a w)->if Region.wanted o (yielded ops a.tmps)=true then Oper.wp P o a w K' Q else K' (a.put o.dst undef) w):wpAny P .any ops Q (fuel+1) listed a w:=
 wpAny_ready hr L0 (TF ho h AllReady.nil)
end Go.Proofs.YtbngggoccndefaaGreatDoor
namespace Go.Proofs.YtbngggoccndefaaGreatDoor
open Go.Proofs.Tryz
open Go.RowKit
theorem BO:∀n:Fin 10,(Ea.chr n.1).toNat=48+n.1:=by decide
theorem BP (x:Nat) (hx10:x<10) (w:World):Calls prog 259 #[.int .i64 (x:Int)] w fun e w'=>e=.returned (.string (Ea.bS [Ea.chr x]))∧Ext w w':=by have hcv:=LW w (Ea.chr x) (48+(x:Int)) (by have h:=BO ⟨x,hx10⟩;dsimp only at h;rw[h];omega);go_enter func259,ntmps259;exact A8
end Go.Proofs.YtbngggoccndefaaGreatDoor
namespace Go.Proofs.YtbngggoccndefaaGreatDoor
open Go.Proofs.Tryz
open Go.RowKit
theorem WQ {w:World} {v:Value} {xs:List Value} (hs:SlK w v xs) (h:Nat) (hh:h<=xs.length):
 ∃v',(∀w',(Instr.slice 26 v none (some (.int .i64 (h:Int))) none).run prog w'=.ok v' w')∧SlK w v' (xs.take h):=by
 obtain⟨hsl,a,c,rfl,hc⟩:=hs
 refine⟨_,fun w'=> ?_,(UK hsl hc (O0 h) hh).congr (by rw[R5,C7])⟩
 have e:prog.elem 26=4:=B1
 have ht:prog.underlying 26=some (.slice (prog.elem 26)):=by rw[e];exact underlying26
 rw[run_slice_h w' 26 a xs.length c ht .i64 (h:Int) B0 B0,e,ED]
 rfl
theorem PM {w:World} {v:Value} {xs:List Value} (hs:SlK w v xs) (l:Nat) (hl:l<=xs.length):
 ∃v',(∀w',(Instr.slice 26 v (some (.int .i64 (l:Int))) none none).run prog w'=.ok v' w')∧SlK w v' (xs.drop l):=by
 obtain⟨hsl,a,c,rfl,hc⟩:=hs
 refine⟨_,fun w'=> ?_,(UK hsl hc hl (K0 _)).congr (by rw[X1 dT])⟩
 have e:prog.elem 26=4:=B1
 have ht:prog.underlying 26=some (.slice (prog.elem 26)):=by rw[e];exact underlying26
 rw[run_slice_l w' 26 a xs.length c ht .i64 (l:Int) B0 B0,e,ED]
 rfl
theorem BQ {α:Type} [DecidableEq α] {y:α}:∀(l:List α) (k:Nat),(∀i,i<k->l[i]?≠some y)->l[k]? =some y->Ea.idx l y=some k:=by
 intro l
 induction l with
 |nil=>intro k _ h;cases h
 |cons x l ih=>
  intro k h1 h2
  cases k with
  |zero=>simp only[B3,I2]at h2;rw[Ea.idx,D0 h2]
  |succ k=>have hx:¬x=y:=fun e=>h1 0 (Nat.succ_pos _) (by rw[B3,e]);rw[Ea.idx,C0 hx,ih k (fun i hi=>by have:=h1 (i+1) B0;simpa using this) D9];rfl
theorem KC {α:Type} [DecidableEq α] {y:α}:∀(l:List α),(∀i,i<l.length->l[i]?≠some y)->Ea.idx l y=none:=by
 intro l
 induction l with
 |nil=>intro _;rfl
 |cons x l ih=>intro h1;have hx:¬x=y:=fun e=>h1 0 (Nat.succ_pos _) (by rw[B3,e]);rw[Ea.idx,C0 hx,ih (fun i hi=>by have:=h1 (i+1) N4;simpa using this)];rfl
theorem ZlL:∀i:Fin 10,Ea.setsL[i.1]? =some (Ea.sets13 i.1):=by decide
theorem KD:∀i:Fin 10,Ea.setsE0[i.1]? =some (Ea.setsE 0 i.1):=by decide
theorem BR:∀i:Fin 10,(Ea.setsE0.map (fun l=>l.map (fun x=>1-x)))[i.1]? =some (Ea.setsE 1 i.1):=by decide
def noV (o:Option Nat):Int:=match o with
 |some d=>(d:Int)
 |none=> -1
def noE (o:Option (Nat×Nat)):Value:=match o with
 |some (y,c)=>.tuple #[.int .i64 (y:Int),.int .i64 (c:Int)]
 |none=>.tuple #[.int .i64 (-1),.int .i64 (-1)]
theorem ZhH (s:ByteArray) (u:List Nat) (hs:s.data.toList=zS u) (hu:∀x∈u,x<10) (w:World):
 Calls prog 258 #[.string s] w fun e w'=>e=.returned (.int .i64 (noV (Ea.find13 u)))∧Ext w w':=by
 obtain⟨res,hres⟩:∃res,Ea.find13 u=res:=⟨_,rfl⟩
 rw[hres]
 have HRES:=A0 hres
 have HS:=A0 hs
 have HU:=A0 hu
 clear hres hs hu
 go_enter func258,ntmps258
 go_wp2
 go_loopw [3] (fun v3 wr=>∃k:Nat,k<=10∧v3=.int .i64 (k:Int)∧Hid (∀i,i<k->Ea.setsL[i]?≠some u)∧Ext w wr) (fun v3 _=>10-(intOf v3).toNat)
 case atStart=>exact⟨0,O0 _,rfl,A0 (fun i hi=>absurd hi (W7 _)),Ext.refl _⟩
 case round=>obtain⟨k,hk,rfl,HB,hxr⟩:=hrel;by_cases hlt:k<10;(·have HC:=A0 (fun w=>ZhI k hlt w);obtain⟨X,hX⟩:∃X,Ea.bS (zS (Ea.sets13 k))=X:=⟨_,rfl⟩;have HQ:Hid ((X.toList==s.toList)=decide (Ea.sets13 k=u)):=A0 (by rw[C4,Y0,Y1,<-hX,C2,C2,HS.out,Ea.bS_list];constructor;(·intro h;exact BH (fun x hx=>by have:=(Ea.sets13_ok ⟨k,hlt⟩).2.1 x hx;omega) HU.out h);·intro h;rw[h]);have HAT:=A0 (ZlL ⟨k,hlt⟩);rw[hX]at HC;clear hX;go_wp2_with fail;refine(HC.out _).mono ?_;rintro e w1 ⟨rfl,hx1⟩;cases hq:(X.toList==s.toList);(·have HB2:Hid (∀i,i<k+1->Ea.setsL[i]?≠some u):=A0 (fun i hi=>by rcases P4 i k with h|h;(·exact HB.out i h);·obtain rfl:i=k:=B0;have:=HQ.out;rw[hq]at this;have h3:=K9 this.symm;rw[HAT.out];intro e;exact h3 TG);go_wp2;go_roundw;(case rel=>exact⟨k+1,by omega,by go_num,HB2,hxr.trans hx1⟩);case measure=>exact Q8);·have HF:Hid (res=some k):=A0 (by have:=HQ.out;rw[hq]at this;have h3:=G6 this.symm;rw[<-HRES.out];unfold Ea.find13;exact BQ _ k HB.out (by rw[HAT.out,h3]));go_wp2;go_ret;exact⟨by rw[HF.out];rfl,hxr.trans hx1⟩);·obtain rfl:k=10:=B0;have HF:Hid (res=none):=A0 (by rw[<-HRES.out];unfold Ea.find13;exact KC _ HB.out);clear hk hlt;go_wp2;go_ret;exact⟨by rw[HF.out];rfl,hxr⟩
theorem Zhk (y c:Nat) (hy:y<2) (hc:c<10) (u:List Nat) (h0:∀i,i<10->0<y->Ea.setsE 0 i≠u) (h1:∀i,i<c->Ea.setsE y i≠u) (h2:Ea.setsE y c=u):Ea.findE u=some (y,c):=by
 have h':y=0∨y=1:=by omega
 unfold Ea.findE;rcases h' with rfl|rfl;·rw[BQ Ea.setsE0 c (fun i hi=>by rw[KD ⟨i,by omega⟩];intro e;exact h1 i hi TG) (by rw[KD ⟨c,hc⟩,h2])]
 ·rw[KC Ea.setsE0 (fun i hi=>by have hi:i<10:=hi;rw[KD ⟨i,hi⟩];intro e;exact h0 i hi B0 TG)];dsimp only;rw[BQ _ c (fun i hi=>by rw[BR ⟨i,by omega⟩];intro e;exact h1 i hi TG) (by rw[BR ⟨c,hc⟩,h2])];rfl
theorem Zhl (u:List Nat) (h0:∀y i,y<2->i<10->Ea.setsE y i≠u):Ea.findE u=none:=by unfold Ea.findE;rw[KC Ea.setsE0 (fun i hi=>by have hi:i<10:=hi;rw[KD ⟨i,hi⟩];intro e;exact h0 0 i B0 hi TG)];dsimp only;rw[KC _ (fun i hi=>by have hi:i<10:=(by simpa[Ea.setsE0]using hi);rw[BR ⟨i,hi⟩];intro e;exact h0 1 i B0 hi TG)];rfl
theorem dU (s:ByteArray) (u:List Nat) (hs:s.data.toList=zS u) (hu:∀x∈u,x<10) (w:World):
 Calls prog 260 #[.string s] w fun e w'=>e=.returned (noE (Ea.findE u))∧Ext w w':=by
 obtain⟨res,hres⟩:∃res,Ea.findE u=res:=⟨_,rfl⟩
 rw[hres]
 have HRES:=A0 hres
 have HS:=A0 hs
 have HU:=A0 hu
 clear hres hs hu
 go_enter func260,ntmps260
 go_wp2
 go_loopw [4] (fun v4 wr=>∃y:Nat,y<=2∧v4=.int .i64 (y:Int)∧Hid (∀q i,q<y->i<10->Ea.setsE q i≠u)∧Ext w wr) (fun v4 _=>2-(intOf v4).toNat)
 case atStart=>exact⟨0,O0 _,rfl,A0 (fun q i hq=>absurd hq (W7 _)),Ext.refl _⟩
 case round=>obtain⟨y,hy,rfl,HB,hxr⟩:=hrel;by_cases hyt:y<2;(·have dy:decide ((y:Int)<2)=true:=V0 B0;go_wp2;go_loopw [5] (fun v5 wq=>∃k:Nat,k<=10∧v5=.int .i64 (k:Int)∧Hid (∀i,i<k->Ea.setsE y i≠u)∧Ext w wq) (fun v5 _=>10-(intOf v5).toNat);(case atStart=>exact⟨0,O0 _,rfl,A0 (fun i hi=>absurd hi (W7 _)),hxr⟩);case round=>obtain⟨k,hk,rfl,HC,hxq⟩:=hrel;by_cases hlt:k<10;(·have HSE:=A0 (fun w=>Zje y k hyt hlt w);obtain⟨X,hX⟩:∃X,Ea.bS (zS (Ea.setsE y k))=X:=⟨_,rfl⟩;have HQ:Hid ((X.toList==s.toList)=decide (Ea.setsE y k=u)):=A0 (by rw[C4,Y0,Y1,<-hX,C2,C2,HS.out,Ea.bS_list];constructor;(·intro h;exact BH (fun x hx=>by have:=(Ea.setsE_ok ⟨y,hyt⟩ ⟨k,hlt⟩).2.1 x hx;omega) HU.out h);·intro h;rw[h]);rw[hX]at HSE;clear hX;go_wp2_with fail;refine(HSE.out _).mono ?_;rintro e w1 ⟨rfl,hx1⟩;cases hq:(X.toList==s.toList);(·have HC2:Hid (∀i,i<k+1->Ea.setsE y i≠u):=A0 (fun i hi=>by rcases P4 i k with h|h;(·exact HC.out i h);·obtain rfl:i=k:=B0;have:=HQ.out;rw[hq]at this;exact K9 this.symm);go_wp2;go_roundw;(case rel=>exact⟨k+1,by omega,by go_num,HC2,hxq.trans hx1⟩);case measure=>exact Q8);·have HF:Hid (res=some (y,k)):=A0 (by have:=HQ.out;rw[hq]at this;have h3:=G6 this.symm;rw[<-HRES.out];exact Zhk y k hyt hlt u (fun i hi h0=>HB.out 0 i h0 hi) HC.out h3);go_wp2;go_ret2;exact⟨by rw[HF.out];rfl,hxq.trans hx1⟩);·obtain rfl:k=10:=B0;have HB2:Hid (∀q i,q<y+1->i<10->Ea.setsE q i≠u):=A0 (fun q i hq hi=>by rcases P4 q y with h|h;(·exact HB.out q i h hi);·obtain rfl:q=y:=B0;exact HC.out i hi);clear hk hlt;go_wp2;go_roundw;(case rel=>exact⟨y+1,by omega,by go_num,HB2,hxq⟩);case measure=>exact Q8);·obtain rfl:y=2:=B0;have HF:Hid (res=none):=A0 (by rw[<-HRES.out];exact Zhl u HB.out);clear hy hyt;go_wp2;go_ret2;exact⟨by rw[HF.out];rfl,hxr⟩
end Go.Proofs.YtbngggoccndefaaGreatDoor
namespace Go.Proofs.YtbngggoccndefaaGreatDoor
open Go.Proofs.Tryz
open Go.RowKit
def gone (o:Option (Nat×Nat)) (d t:Nat):Bool:=match o with
 |none=>false
 |some (d0,u0)=>decide (d0<d∨d0=d∧u0<t)
def T9 (o:Option (Nat×Nat)) (d t:Nat):List UInt8:=if gone o d t=true then(match o with
 |none=>[]
 |some (d0,_)=>[Ea.chr d0])else []
def U9 (o:Option (Nat×Nat)) (d t:Nat):List Nat:=if gone o d t=true then(match o with
 |none=>[]
 |some (_,u0)=>[u0])else []
theorem Zj4 (o:Option (Nat×Nat)) (d t:Nat):(T9 o d t).length<=1:=by
 unfold T9;split;·cases o<;>simp
 ·simp
theorem Zj5 (o:Option (Nat×Nat)) (d t:Nat):(U9 o d t).length<=1:=by
 unfold U9;split;·cases o<;>simp
 ·simp
def span (both:Bool) (t lo hi:Nat):Prop:=if both=true then lo=0∧hi=1 else lo=t∧hi=t
theorem KE {both:Bool} {t lo hi:Nat} (h:span both t lo hi) (u:Nat):Ea.may both t u↔lo<=u∧u<=hi:=by
 unfold span at h
 unfold Ea.may
 cases both with
 |true=>simp only[W4]at h⊢;omega
 |false=>simp only[WG,R6]at h⊢;omega
theorem Zi0 {both:Bool} {t lo hi:Nat} (ht:t<3) (hs:span both t lo hi) (p:List Bool):gone (Ea.look both t p) 0 lo=false:=by
 cases h:Ea.look both t p with
 |none=>rfl
 |some q=>obtain⟨d0,u0⟩:=q;have:=(KE hs u0).1 (Ea.look_some ht h).2.2;show decide _=false;rw[WB];omega
theorem Zj6 {both:Bool} {t lo hi:Nat} (ht:t<3) (hs:span both t lo hi) (p:List Bool) (d:Nat):gone (Ea.look both t p) d (hi+1)=gone (Ea.look both t p) (d+1) lo:=by
 cases h:Ea.look both t p with
 |none=>rfl
 |some q=>obtain⟨d0,u0⟩:=q;have:=(KE hs u0).1 (Ea.look_some ht h).2.2;show decide _=decide _;rw[decide_eq_decide];omega
theorem Zld {both:Bool} {t lo hi:Nat} (ht:t<3) (hs:span both t lo hi) {p:List Bool} {d u:Nat} (hd:d<10) (hu:lo<=u∧u<=hi) (hp:p=Ea.modl u d):
 gone (Ea.look both t p) d u=false∧gone (Ea.look both t p) d (u+1)=true∧Ea.look both t p=some (d,u):=by
 have h:Ea.look both t p=some (d,u):=by rw[hp];exact Ea.look_of ht hd ((KE hs u).2 hu)
 rw[h]
 refine⟨?_,?_,rfl⟩
 ·show decide _=false;rw[WB];omega
 ·show decide _=true;rw[Y1];omega
theorem ZmA {both:Bool} {t lo hi:Nat} (ht:t<3) (hs:span both t lo hi) {p:List Bool} {d u:Nat} (hd:d<10) (hu:lo<=u∧u<=hi) (hp:p≠Ea.modl u d):
 gone (Ea.look both t p) d (u+1)=gone (Ea.look both t p) d u:=by
 cases h:Ea.look both t p with
 |none=>rfl
 |some q=>obtain⟨d0,u0⟩:=q;have h2:=Ea.look_uniq ht h hd ((KE hs u).2 hu);have h3:¬(d=d0∧u=u0):=fun e=>hp (h2.2 e);show decide _=decide _;rw[decide_eq_decide];omega
theorem Zlc {both:Bool} {t lo:Nat} (ht:t<3) (p:List Bool):gone (Ea.look both t p) 10 lo=(Ea.look both t p).isSome:=by
 cases h:Ea.look both t p with
 |none=>rfl
 |some q=>obtain⟨d0,u0⟩:=q;have:=(Ea.look_some ht h).1;show decide _=true;rw[Y1];omega
structure Zox (p:List Bool) (lo hi:Nat) (ds:List UInt8) (us:List Nat) (r:Option (Nat×Nat))where
 X:Nat->Nat->ByteArray
 Y:Nat->Nat->ByteArray
 B:Nat->Nat->Bool
 start:X 0 lo=Ea.bS ds∧Y 0 lo=Ea.bS (zS us)∧B 0 lo=false
 yes:∀d u,d<10->lo<=u->u<=hi->decide (p=Ea.modl u d)=true->X d (u+1)=X d u++Ea.bS [Ea.chr d]∧Y d (u+1)=Y d u++Ea.bS [Ea.chr u]∧B d (u+1)=true
 no:∀d u,d<10->lo<=u->u<=hi->decide (p=Ea.modl u d)=false->X d (u+1)=X d u∧Y d (u+1)=Y d u∧B d (u+1)=B d u
 next:∀d,X d (hi+1)=X (d+1) lo∧Y d (hi+1)=Y (d+1) lo∧B d (hi+1)=B (d+1) lo
 stop:B 10 lo=r.isSome∧∀d u,r=some (d,u)->X 10 lo=Ea.bS (ds++[Ea.chr d])∧Y 10 lo=Ea.bS (zS (us++[u]))
 small:∀d u,(X d u).size<=ds.length+1∧(Y d u).size<=us.length+1
theorem Zny (a b:List UInt8):Ea.bS (a++b)=Ea.bS a++Ea.bS b:=by apply Zl;rw[Y3,F4];rfl
theorem ZkW {both:Bool} {t lo hi:Nat} (ht:t<3) (hs:span both t lo hi) (p:List Bool) (ds:List UInt8) (us:List Nat):Nonempty (Zox p lo hi ds us (Ea.look both t p)):=by
 have hT:∀d u d1 u1,gone (Ea.look both t p) d u=gone (Ea.look both t p) d1 u1->T9 (Ea.look both t p) d u=T9 (Ea.look both t p) d1 u1∧U9 (Ea.look both t p) d u=U9 (Ea.look both t p) d1 u1:=by intro d u d1 u1 e;unfold T9 U9;rw[e];exact V6
 refine⟨⟨fun d u=>Ea.bS (ds++T9 (Ea.look both t p) d u),fun d u=>Ea.bS (zS (us++U9 (Ea.look both t p) d u)),fun d u=>gone (Ea.look both t p) d u,?_,?_,?_,?_,?_,?_⟩⟩;·have h:=Zi0 ht hs p;unfold T9 U9;rw[h];simp
 ·intro d u hd h1 h2 hp;obtain⟨g1,g2,g3⟩:=Zld ht hs hd ⟨h1,h2⟩ (G6 hp);unfold T9 U9;rw[g1,g2,g3];simp only[W4,WG,R6,P3,Zot,Zny];exact BS
 ·intro d u hd h1 h2 hp;have h:=ZmA ht hs hd ⟨h1,h2⟩ (K9 hp);obtain⟨e1,e2⟩:=hT _ _ _ _ h;rw[e1,e2,h];exact BS
 ·intro d;have h:=Zj6 ht hs p d;obtain⟨e1,e2⟩:=hT _ _ _ _ h;rw[e1,e2,h];exact BS
 ·have h:=Zlc (lo:=lo) (both:=both) ht p;refine⟨h,fun d u e=> ?_⟩;unfold T9 U9;rw[h,e];exact V6
 ·intro d u;have h1:=Zj4 (Ea.look both t p) d u;have h2:=Zj5 (Ea.look both t p) d u;constructor;(·rw[Zf (Ea.bS_list _),T0];omega);·rw[Zf (Ea.bS_list _),Zou,T0];omega
def BT (r:Option (List UInt8×List Nat)):Value:=match r with
 |none=>.tuple #[.string (Ea.bS []),.string (Ea.bS [])]
 |some (l,u)=>.tuple #[.string (Ea.bS l),.string (Ea.bS (zS u))]
theorem TH (v:Value) (m:List Bool) (at' n gap t lo hi:Nat) (both:Bool) (w:World) (hv:SlK w v (m.map encT)) (hn:n<=6) (hg:gap<=2) (ht:t<3) (hsp:span both t lo hi) (hlen:at'+n*(7+gap)<=m.length+gap) (hm:m.length<=1000000):
 Calls prog 257 #[v,.int .i64 (at':Int),.int .i64 (n:Int),.int .i64 (gap:Int),.int .i64 (lo:Int),.int .i64 (hi:Int)] w fun e w'=>e=.returned (BT (Ea.rcg both t gap n (m.drop at')))∧Ext w w':=by
 obtain⟨res,hres⟩:∃res,Ea.rcg both t gap n (m.drop at')=res:=⟨_,rfl⟩
 rw[hres]
 have HRES:=A0 hres
 have HV:=A0 hv
 have hhi:hi<=2:=by unfold span at hsp;split at hsp<;>omega
 have HSP:=A0 hsp
 have hat:at'<=1000100:=by omega
 have HLEN:=A0 hlen
 obtain⟨_,a,c,rfl,hc⟩:=hv
 rw[J0]at HV hc⊢
 clear hres hsp hlen
 go_enter func257,ntmps257
 go_wp2
 go_loopw [14,15,16] (fun v14 v15 v16 wr=>∃(k:Nat) (D T:ByteArray) (ds:List UInt8) (us:List Nat),k<=n∧v14=.string D∧v15=.string T∧v16=.int .i64 (k:Int)∧Hid (D=Ea.bS ds∧T=Ea.bS (zS us)∧ds.length=k∧us.length=k)∧Hid (res=Ea.sofar (Ea.rcg both t gap (n-k) (m.drop (at'+k*(7+gap)))) ds us)∧Ext w wr) (fun _ _ v16 _=>n-(intOf v16).toNat)
 case atStart=>exact⟨0,⟨#[]⟩,⟨#[]⟩,[],[],O0 _,rfl,rfl,rfl,A0 ⟨rfl,rfl,rfl,rfl⟩,A0 (by rw[Ea.sofar_nil,C7,Nat.zero_mul,Y4];exact HRES.out.symm),Ext.refl w⟩
 case round=>
  obtain⟨k,D,T,ds,us,hk,rfl,rfl,rfl,HDT,HR,hxr⟩:=hrel;by_cases hlt:k<n
  ·have hkn:decide ((k:Int)<(n:Int))=true:=V0 B0;obtain⟨x,hx⟩:∃x,k*(7+gap)=x:=⟨_,rfl⟩;have hxi:(k:Int)*(7+(gap:Int))=(x:Int):=(by rw[<-hx];push_cast;rfl);have hx54:x<=54:=(by rw[<-hx];exact B4 (VH (show k<=6 by omega) (show 7+gap<=9 by omega)) I0);obtain⟨y,hy⟩:∃y,at'+x=y:=⟨_,rfl⟩;have hyi:(at':Int)+(x:Int)=(y:Int):=B0;obtain⟨z,hz⟩:∃z,y+7=z:=⟨_,rfl⟩;have hzi:(y:Int)+7=(z:Int):=B0;have hzm:z<=m.length:=(by have h1:(k+1)*(7+gap)<=n*(7+gap):=VH hlt (K0 _);have h2:(k+1)*(7+gap)=x+(7+gap):=(by rw[Nat.succ_mul,hx]);have:=HLEN.out;omega);obtain⟨pv,hp1,hp2⟩:=ZV HV.out y z B0 (by rw[J0];exact hzm);rw[<-R3,<-I3,show z-y=7 by omega]at hp2;obtain⟨p,hpp⟩:∃p,(m.drop y).take 7=p:=⟨_,rfl⟩;rw[hpp]at hp2;have hpl:p.length=7:=(by rw[<-hpp,M1,X2];omega);obtain⟨F⟩:=ZkW ht HSP.out p ds us;have HF1:=A0 F.start;have HF2:=A0 F.yes;have HF3:=A0 F.no;have HF4:=A0 F.next;have HF5:=A0 F.stop;have HF6:=A0 F.small;obtain⟨X,hX⟩:∃X,F.X=X:=⟨_,rfl⟩;obtain⟨Y,hY⟩:∃Y,F.Y=Y:=⟨_,rfl⟩;obtain⟨B,hB⟩:∃B,F.B=B:=⟨_,rfl⟩;rw[hX,hY,hB]at HF1 HF2 HF3 HF4 HF5;rw[hX,hY]at HF6;have HP:=A0 hp2;have HPL:=A0 hpl;have HXX:Hid (k*(7+gap)=x∧at'+x=y∧y+7=z∧(m.drop y).take 7=p):=A0 ⟨hx,hy,hz,hpp⟩;have HL:Hid (Ea.look both t p=Ea.look both t ((m.drop (at'+k*(7+gap))).take 7)):=A0 (by rw[hx,hy,hpp]);obtain⟨lk,hlk⟩:∃lk,Ea.look both t p=lk:=⟨_,rfl⟩;rw[hlk]at HF5 HL;clear hX hY hB hp2 hpl hx hy hz hpp hlk F;have HS6:Hid (∀d u,(X d u).size<=7∧(Y d u).size<=7):=A0 (fun d u=>by have:=HF6.out d u;have h3:=HDT.out;omega);have hD:D=X 0 lo:=(by rw[HF1.out.1];exact HDT.out.1);have hT:T=Y 0 lo:=(by rw[HF1.out.2.1];exact HDT.out.2.1);subst hD hT;have hB0:B 0 lo=false:=HF1.out.2.2;clear HF1 HF6;go_wp2_with fail;go_loopw [14,15,18,19] (fun v14 v15 v18 v19 wq=>∃d:Nat,d<=10∧v14=.string (X d lo)∧v15=.string (Y d lo)∧v18=.bool (B d lo)∧v19=.int .i64 (d:Int)∧Ext w wq) (fun _ _ _ v19 _=>10-(intOf v19).toNat);(case atStart=>exact⟨0,O0 _,rfl,rfl,by rw[hB0],rfl,hxr⟩);case round=>
    obtain⟨d,hd,rfl,rfl,rfl,rfl,hxq⟩:=hrel;by_cases hdt:d<10;(·have hdd:decide ((d:Int)<10)=true:=V0 B0;go_wp2_with fail;go_loopw [14,15,18,20] (fun v14 v15 v18 v20 ws=>∃u:Nat,lo<=u∧u<=hi+1∧v14=.string (X d u)∧v15=.string (Y d u)∧v18=.bool (B d u)∧v20=.int .i64 (u:Int)∧Ext w ws) (fun _ _ _ v20 _=>hi+1-(intOf v20).toNat);(case atStart=>exact⟨lo,K0 _,by have:=HSP.out;unfold span at this;split at this<;>omega,rfl,rfl,rfl,rfl,hxq⟩);case round=>obtain⟨u,hul,huh,rfl,rfl,rfl,rfl,hxs⟩:=hrel;by_cases hut:u<=hi;(·have hud:decide ((u:Int)<=(hi:Int))=true:=V0 B0;have HTB:=A0 (fun w=>Zjk d u hdt B0 w);have HY:=HF2.out d u hdt hul hut;have HN:=HF3.out d u hdt hul hut;have hs1:=HS6.out d u;obtain⟨hs1,hs2⟩:=hs1;have hml:(Ea.modl u d).length<=1000000:=(by have:=BJ ⟨u,by omega⟩ ⟨d,hdt⟩;dsimp only at this;omega);have HML:=A0 hml;generalize Ea.modl u d=md at*;cases hq:decide (p=md);(·obtain⟨n1,n2,n3⟩:=HN hq;have HNN:=A0 (And.intro n1 (And.intro n2 n3));clear HY HN n1 n2 n3 hml;go_wp2_with fail;refine(HTB.out _).mono ?_;rintro e w1 ⟨tv,rfl,hown,hx1⟩;have HE:=A0 (BN pv tv p md w1 ((HP.out.ext hxs).ext hx1) hown.slk (by have:=HPL.out;omega) HML.out);rw[hq]at HE;clear hq;go_wp2_with fail;refine HE.out.mono ?_;rintro e w2 ⟨rfl,hx2⟩;go_wp2;go_roundw;(case rel=>exact⟨u+1,by omega,by omega,by rw[HNN.out.1],by rw[HNN.out.2.1],by rw[HNN.out.2.2],by go_num,(hxs.trans hx1).trans hx2⟩);case measure=>exact Q8);·obtain⟨n1,n2,n3⟩:=HY hq;have HNN:=A0 (And.intro n1 (And.intro n2 n3));clear HY HN n1 n2 n3 hml;go_wp2_with fail;refine(HTB.out _).mono ?_;rintro e w1 ⟨tv,rfl,hown,hx1⟩;have HE:=A0 (BN pv tv p md w1 ((HP.out.ext hxs).ext hx1) hown.slk (by have:=HPL.out;omega) HML.out);rw[hq]at HE;clear hq;go_wp2_with fail;refine HE.out.mono ?_;rintro e w2 ⟨rfl,hx2⟩;have hcv1:=LW w2 (Ea.chr d) (48+(d:Int)) (by have h:=BO ⟨d,hdt⟩;dsimp only at h;rw[h];omega);have hcv2:=LW (w2.alloc (.cells #[.int .u8 (48+(d:Int))] 5)) (Ea.chr u) (48+(u:Int)) (by have h:=BO ⟨u,by omega⟩;dsimp only at h;rw[h];omega);rw[show(w2.alloc (.cells #[.int .u8 (48+(d:Int))] 5)).heap.size=w2.heap.size+1 by simp]at hcv2;have hz1:(Ea.bS [Ea.chr d]).size=1:=rfl;have hz2:(Ea.bS [Ea.chr u]).size=1:=rfl;generalize Ea.bS [Ea.chr d]=CD at*;generalize Ea.bS [Ea.chr u]=CU at*;have HXE:=A0 ((((hxs.trans hx1).trans hx2).alloc (.cells #[.int .u8 (48+(d:Int))] 5)).alloc (.cells #[.int .u8 (48+(u:Int))] 5));clear hxs hx1 hx2;go_wp2;go_roundw;(case rel=>exact⟨u+1,by omega,by omega,by rw[HNN.out.1],by rw[HNN.out.2.1],by rw[HNN.out.2.2],by go_num,HXE.out⟩);case measure=>exact Q8);·obtain rfl:u=hi+1:=B0;have hud:decide (((hi+1:Nat):Int)<=(hi:Int))=false:=X0 B0;obtain⟨e1,e2,e3⟩:=HF4.out d;rw[e1,e2,e3];clear e1 e2 e3 hul huh hut;generalize((hi+1:Nat):Int)=hh at*;go_wp2;go_roundw;(case rel=>exact⟨d+1,by omega,rfl,rfl,rfl,by go_num,hxs⟩);case measure=>exact Q8)
    ·obtain rfl:d=10:=by omega
     have hdd:decide (((10:Nat):Int)<10)=false:=by decide
     obtain⟨b,hb⟩:∃b,B 10 lo=b:=⟨_,rfl⟩
     rw[hb]at HF5⊢
     clear hd hdt hb
     cases hlo:lk with
     |none=>rw[hlo]at HF5 HL;have hbf:b=false:=HF5.out.1;subst hbf;have HG:Hid (res=none):=A0 (by obtain⟨q,hq⟩:∃q,n-k=q+1:=⟨n-k-1,by omega⟩;rw[HR.out,hq,Ea.rcg_none (by rw[<-HL.out])];rfl);clear HF5;go_wp2;go_ret2;exact⟨by rw[HG.out];rfl,hxq⟩
     |some q=>obtain⟨d0,u0⟩:=q;rw[hlo]at HF5 HL;have hbf:b=true:=HF5.out.1;subst hbf;obtain⟨e1,e2⟩:=HF5.out.2 d0 u0 rfl;have HE1:Hid (X 10 lo=Ea.bS (ds++[Ea.chr d0])∧Y 10 lo=Ea.bS (zS (us++[u0]))∧(ds++[Ea.chr d0]).length=k+1∧(us++[u0]).length=k+1):=A0 ⟨e1,e2,by rw[T0,HDT.out.2.2.1];rfl,by rw[T0,HDT.out.2.2.2];rfl⟩;have HR2:Hid (res=Ea.sofar (Ea.rcg both t gap (n-(k+1)) (m.drop (at'+(k+1)*(7+gap)))) (ds++[Ea.chr d0]) (us++[u0])):=A0 (by rw[HR.out,show n-k=(n-(k+1))+1 by omega,Ea.rcg_some (by rw[<-HL.out]),W5,show at'+(k+1)*(7+gap)=at'+k*(7+gap)+(7+gap) by rw[Nat.succ_mul];omega]);clear HF5 e1 e2;go_wp2;go_roundw;(case rel=>exact⟨k+1,_,_,_,_,by omega,rfl,rfl,by go_num,HE1,HR2,hxq⟩);case measure=>exact Q8
  ·obtain rfl:k=n:=B0;have hkn:decide ((k:Int)<(k:Int))=false:=X0 B0;have HG:Hid (res=some (ds,us)):=A0 (by rw[HR.out,I4,Ea.rcg,Ea.sofar_end]);have HD2:Hid (D=Ea.bS ds∧T=Ea.bS (zS us)):=A0 ⟨HDT.out.1,HDT.out.2.1⟩;clear hk hlt HR;go_wp2;go_ret2;exact⟨by rw[HG.out];unfold BT;dsimp only;rw[<-HD2.out.1,<-HD2.out.2];rfl,hxr⟩
end Go.Proofs.YtbngggoccndefaaGreatDoor
end
namespace Go.Proofs.YtbngggoccndefaaGreatDoor
open Go.Proofs.Tryz
section
open Go.RowKit
theorem Sl.part {w:World} {b o n c:Nat} {l:List Value} (h:Sl w (.slice (some ⟨b,o,none⟩) n c) l) (i k c':Nat) (hk:k<=l.length) (hi:i<=k):Sl w (.slice (some ⟨b,o+i,none⟩) (k-i) c') ((l.take k).drop i):=by
 have hlen:((l.take k).drop i).length=k-i:=by rw[X2,M1];omega
 by_cases h0:k-i=0;·exact .inl ⟨L4 (by rw[hlen,h0]),_,_,by rw[h0]⟩
 ·rcases h with⟨rfl,_⟩|⟨b',o',cap,he,hb,hc⟩;(·simp at hk;omega);·injection he with h1 h2 h3;injection h1 with h1;injection h1 with h1 h4;subst h1 h4;refine .inr ⟨b,o+i,c',by rw[hlen],hb,fun j hj=> ?_⟩;rw[hlen]at hj;rw[Nat.add_assoc,hc (i+j) B0,RK,W6,D0 B0]
theorem ZkC (v:Value) (vs:List Int) (w:World) (hv:SlK w v (vs.map encI)) (hl:vs.length<=400000):
 Calls prog 141 #[v] w (F5 (Cc.chars vs) w):=by
 obtain⟨hsl,a,c,rfl,hcap⟩:=hv
 rw[J0]at hsl hcap⊢
 obtain⟨n,hn⟩:∃n,n=vs.length:=⟨_,rfl⟩
 have HR:=A0 (Cc.chars.eq_1 vs)
 rw[<-hn]at hsl hl hcap⊢
 rw[<-hn]at HR
 have HN:=A0 hn
 have HV:=A0 hsl
 generalize Cc.chars vs=res at*
 clear hsl hn
 go_enter func141,ntmps141
 go_wp2_with fail
 go_loop [9] (fun t=>∃j:Nat,j<=n∧t=.int .i64 (j:Int)∧Hid (∀x∈vs.take j,0<=x∧x<=106)) (fun t=>n-(intOf t).toNat)
 case atStart=>exact RI
 case round=>
 obtain⟨j,hj,rfl,HB⟩:=hrel
 by_cases hlt:j<n
 ·exact dV
 obtain rfl:n=j:=by omega
 have HB3:Hid (∀x∈vs,0<=x∧x<=106):=A0 (fun x hx=>HB.out x KF)
 have HR2:Hid (res=if n<3 then(([],7):List Int×Int)else if vs.getD 0 0<103∨105<vs.getD 0 0 then([],19)else if vs.getD (n-1) 0≠106 then([],20)else if vs.getD (n-2) 0≠Cc.chk (vs.take (n-2))then([],8)else match Cc.runC (vs.getD 0 0-103).toNat false [] ((vs.take (n-2)).drop 1)with|none=>([],22)|some o=>(o,0)):=A0 dW
 clear HR HB hlt hj
 by_cases h3:n<3
 ·exact dX
 rw[C0 h3]at HR2
 have h3I:¬(n:Int)<3:=by omega
 obtain⟨x0,hx0⟩:∃x,vs[0]? =some x:=⟨_,M0 G5⟩
 obtain⟨b,o,ha,hb,hc0⟩:=HV.out.int_at (Ext.refl w) hx0
 subst ha
 rw[Y4]at hc0
 have e0:vs.getD 0 0=x0:=by rw[U0,hx0];rfl
 rw[e0]at HR2
 have hb0:=HB3.out x0 (J1 hx0)
 have hn0:(0:Int)<(n:Int):=by omega
 have hne0:n≠0:=by omega
 clear e0 hx0
 by_cases hs:x0<103∨105<x0
 ·exact dY
 rw[C0 hs]at HR2
 have hs1:¬x0<103:=by omega
 have hs2:¬105<x0:=by omega
 clear hs
 obtain⟨k1,hk1⟩:∃k,k=n-1:=⟨_,rfl⟩
 obtain⟨k2,hk2⟩:∃k,k=n-2:=⟨_,rfl⟩
 rw[<-hk1,<-hk2]at HR2
 have hk1I:(n:Int)-1=(k1:Int):=by omega
 have hk2I:(n:Int)-2=(k2:Int):=by omega
 obtain⟨x1,hx1⟩:∃x,vs[k1]? =some x:=⟨_,M0 G5⟩
 obtain⟨x2,hx2⟩:∃x,vs[k2]? =some x:=⟨_,M0 G5⟩
 obtain⟨b',o',ha,_,hc1⟩:=HV.out.int_at (Ext.refl w) hx1
 injection ha with ha
 injection ha with q1 q2
 subst q1 q2
 obtain⟨b',o',ha,_,hc2⟩:=HV.out.int_at (Ext.refl w) hx2
 injection ha with ha
 injection ha with q1 q2
 subst q1 q2
 have e1:vs.getD k1 0=x1:=by rw[U0,hx1];rfl
 have e2:vs.getD k2 0=x2:=by rw[U0,hx2];rfl
 rw[e1,e2]at HR2
 have hb2:=HB3.out x2 (J1 hx2)
 have hk1n:(k1:Int)<(n:Int):=by omega
 have hk2n:(k2:Int)<(n:Int):=by omega
 have hk10:k1<n:=by omega
 have hk20:k2<n:=by omega
 have hk2c:k2<=c:=by omega
 have hk21:1<=k2:=by omega
 clear e1 e2 hx1 hx2 hk1 hk2
 by_cases hst:x1≠106
 ·rw[D0 hst]at HR2;have z1:(x1==106)=false:=N0.2 hst;clear hst;exact TI
 rw[C0 hst]at HR2
 obtain rfl:x1=106:=by omega
 clear hst
 have hSL:Sl w (.slice (some ⟨b,o,none⟩) k2 c) ((vs.take k2).map encI):=by have:=HV.out.part 0 k2 c (by rw[J0,<-HN.out];omega) (O0 _);rw[R5,<-I3]at this;exact F3
 have HSL:=A0 hSL
 have hCV:=A0 (fun w' (hx:Ext w w')=>ZfB (.slice (some ⟨b,o,none⟩) k2 c) (vs.take k2) w' (hSL.ext hx) X3 (by rw[M1,<-HN.out];omega) (fun x hx=>HB3.out x (G4 hx)))
 clear hSL
 obtain⟨ck,hck⟩:∃ck,ck=Cc.chk (vs.take k2):=⟨_,rfl⟩
 rw[<-hck]at HR2 hCV
 clear hck
 have HCV2:=A0 (fun k=>(hCV.out (w.drewN k) ((Ext.refl _).drewN _)))
 by_cases hck:x2≠ck
 ·rw[D0 hck]at HR2;have z2:(x2==ck)=false:=N0.2 hck;clear hck;go_wp2_with fail;go_quiet ((go_at_call 187;exact Calls.quiet_of_same ((HCV2.out _).mono fun _ _ h=>⟨h.1,h.2.symm⟩)));have hxq:Ext w (w.drewN nq):=(Ext.refl _).drewN _;generalize w.drewN nq=wq at*;go_wp2_with fail;go_ret2;rw[HR2.out];exact F5.bad _ _ _ hxq
 rw[C0 hck]at HR2
 obtain rfl:x2=ck:=L5.1 hck
 clear hck
 obtain⟨s0,hs0⟩:∃s:Nat,s=(x0-103).toNat:=⟨_,rfl⟩
 have hs02:s0<=2:=by omega
 have hs0I:2+x0-103=(s0:Int)+2:=by omega
 rw[<-hs0]at HR2
 obtain⟨ms,hms⟩:∃ms,ms=(vs.take k2).drop 1:=⟨_,rfl⟩
 rw[<-hms]at HR2
 have hSM:Sl w (.slice (some ⟨b,o+1,none⟩) (k2-1) (c-1)) (ms.map encI):=by have:=HV.out.part 1 k2 (c-1) (by rw[J0,<-HN.out];omega) hk21;rw[<-I3,<-R3,<-hms]at this;exact F3
 have hST:=A0 (fun w'=>Zh7 x0 w' B0)
 obtain⟨r2,hr2⟩:∃r2,r2=(match Cc.runC s0 false [] ms with|none=>(([],22):List Int×Int)|some o=>(o,0)):=⟨_,rfl⟩
 have HR3:Hid (res=r2):=A0 (HR2.out.trans (by rw[hr2]))
 have hIN:Hid (∀w',Ext w w'->Calls prog 216 #[.slice (some ⟨b,o+1,none⟩) (k2-1) (c-1),.int .i64 (2+x0-103)] w' (F5 r2 w')):=A0 (fun w' hx=>by rw[hr2,hs0I];exact Zgx (.slice (some ⟨b,o+1,none⟩) (k2-1) (c-1)) ms s0 w' (hSM.ext hx) (by rw[hms,X2,M1];omega) hs02 (fun x hx=>HB3.out x (G4 (M6 (hms▸hx)))))
 clear hms hs0 hr2 hSM HR2
 go_wp2_with fail
 go_quiet ((go_at_call 187;exact Calls.quiet_of_same ((HCV2.out _).mono fun _ _ h=>⟨h.1,h.2.symm⟩)))
 have hxq:Ext w (w.drewN nq):=(Ext.refl _).drewN _
 generalize w.drewN nq=wq at*
 have hcq:=(hxq.cell (p:=⟨b,o,none⟩) hb).trans hc0
 have HC0:Hid (∀w',Ext wq w'->w'.cell? ⟨b,o,none⟩=some (.int .i64 x0)):=A0 (fun w' hx=>(hx.cell (p:=⟨b,o,none⟩) (G2 hb hxq.size)).trans hcq)
 go_wp2_with fail
 have hkm:((k2:Int)-1).toNat=k2-1:=by omega
 have hk2I1:(1:Int)<=(k2:Int):=by omega
 have hk2I0:¬(k2:Int)<1:=by omega
 have hk2cI:(k2:Int)<=(c:Int):=by omega
 have hwk:IntKind.i64.wrap (k2:Int)=(k2:Int):=T3 _ B0
 have hmx0:max (k2:Int) 0=(k2:Int):=by omega
 refine Zh 12 1 rfl [55,56,57,58,59,60,61,62,63,64,65,2] [[],[],[1],[0,2],[],[4],[5],[6],[3,7],[8],[8],[9]] G0 G0 ?_
 apply Za
 ·exact dZ
 apply Za
 ·intro V w' hx hf;(with_reducible refine relAt_ops ?_);intro A ρ hA hρ hcst hfun;have h6:ρ (.tmp 6)=.int .i64 (n:Int):=(P0 hρ _).trans (evalMiss hA 6 rfl);exact QO
 apply Za
 ·intro V w' hx hf;(with_reducible refine relAt_ops ?_);intro A ρ hA hρ hcst hfun;obtain⟨f56,_⟩:=hf;have h56:ρ (.tmp 56)=_:=(P0 hρ _).trans ((evalHit hA 56 rfl).trans f56);simp[relUpon,go_sem,hcst,↓IntWalk.iteOmega,Ext.refl,h56,hk2I];rfl
 refine Zc (eqv (.slice (some ⟨b,o+1,none⟩) (k2-1) (c-1))) (Zg _) ?_ ?_
 ·intro V w' hx hf;(with_reducible refine relAt_ops ?_);intro A ρ hA hρ hcst hfun;obtain⟨f55,f57,_⟩:=hf;have h55:ρ (.tmp 55)=_:=(P0 hρ _).trans ((evalHit hA 55 rfl).trans f55);have h57:ρ (.tmp 57)=_:=(P0 hρ _).trans ((evalHit hA 57 rfl).trans f57);simp[relUpon,go_sem,hcst,↓IntWalk.iteOmega,Ext.refl,h55,h57,hkm,hk2I1,hk2I0,hk2cI];show Value.slice _ _ _=Value.slice _ _ _;rw[hwk];rfl
 apply Za
 ·exact dZ
 refine Zc (eqv (.pointer (some ⟨b,o,none⟩))) (Zg _) ?_ ?_
 ·intro V w' hx hf;(with_reducible refine relAt_ops ?_);intro A ρ hA hρ hcst hfun;obtain⟨f59,_⟩:=hf;have h59:ρ (.tmp 59)=_:=(P0 hρ _).trans ((evalHit hA 59 rfl).trans f59);simp[relUpon,go_sem,hcst,↓IntWalk.iteOmega,Ext.refl,h59,hn0,hne0];rfl
 refine Zc (eqv (.int .i64 x0)) (Zg _) ?_ ?_
 ·intro V w' hx hf;(with_reducible refine relAt_ops ?_);intro A ρ hA hρ hcst hfun;obtain⟨f60,_⟩:=hf;have h60:ρ (.tmp 60)=_:=(P0 hρ _).trans ((evalHit hA 60 rfl).trans f60);have hcw:=HC0.out w' hx;simp[relUpon,go_sem,hcst,↓IntWalk.iteOmega,Ext.refl,h60,hcw];rfl
 refine Zc (eqv (.int .i64 (2+x0-103))) (Zg _) ?_ ?_
 ·intro V w' hx hf;(with_reducible refine relAt_ops ?_);intro A ρ hA hρ hcst hfun;obtain⟨f61,_⟩:=hf;have h61:ρ (.tmp 61)=_:=(P0 hρ _).trans ((evalHit hA 61 rfl).trans f61);simp[relUpon,go_sem,hcst,hfun,h61];exact(hST.out w').mono fun e w'' ⟨he,hw⟩=>⟨_,he,hw▸Ext.refl _,rfl⟩
 refine Zc (fun v w=>∃u,v=.tuple #[u,.int .i64 r2.2]∧SlK w u (r2.1.map encI)) (fun _ _ _ ⟨u,h1,h2⟩ hx=>⟨u,h1,h2.ext hx⟩) ?_ ?_
 ·intro V w' hx hf;(with_reducible refine relAt_ops ?_);intro A ρ hA hρ hcst hfun;obtain⟨f58,f62,_⟩:=hf;have h58:ρ (.tmp 58)=_:=(P0 hρ _).trans ((evalHit hA 58 rfl).trans f58);have h62:ρ (.tmp 62)=_:=(P0 hρ _).trans ((evalHit hA 62 rfl).trans f62);simp[relUpon,go_sem,hcst,hfun,h58,h62];exact(hIN.out w' (hxq.trans hx)).mono fun e w'' ⟨u,he,hs,hy⟩=>⟨_,he,hy,u,rfl,hs⟩
 refine Zc (fun v w=>SlK w v (r2.1.map encI)) (fun _ _ _ h hx=>h.ext hx) ?_ ?_
 ·intro V w' hx hf;(with_reducible refine relAt_ops ?_);intro A ρ hA hρ hcst hfun;obtain⟨f63,_⟩:=hf;obtain⟨u,hu,hs⟩:=f63;have h63:ρ (.tmp 63)=_:=(P0 hρ _).trans ((evalHit hA 63 rfl).trans hu);simp[relUpon,go_sem,hcst,Ext.refl,h63];exact hs
 refine Zc (eqv (.int .i64 r2.2)) (Zg _) ?_ ?_
 ·intro V w' hx hf;(with_reducible refine relAt_ops ?_);intro A ρ hA hρ hcst hfun;obtain⟨f63,_⟩:=hf;obtain⟨u,hu,hs⟩:=f63;have h63:ρ (.tmp 63)=_:=(P0 hρ _).trans ((evalHit hA 63 rfl).trans hu);simp[relUpon,go_sem,hcst,Ext.refl,h63];rfl
 refine Zc (fun v w=>SlK w v (r2.1.map encI)) (fun _ _ _ h hx=>h.ext hx) ?_ ?_
 ·intro V w' hx hf;(with_reducible refine relAt_ops ?_);intro A ρ hA hρ hcst hfun;obtain⟨f64,_⟩:=hf;have h64:ρ (.tmp 64)=V 64:=(P0 hρ _).trans (evalHit hA 64 rfl);exact relUpon_move (hk:=by rw[h64];exact⟨Ext.refl _,f64⟩)
 intro V wT hxT hf
 obtain⟨-,-,-,-,-,-,-,-,-,-,g65,g2,-⟩:=hf
 simp only[fillA,F1,O1,Act.put,V1,N1,L1]
 have q65:V 65=_:=g65
 rw[q65]
 refine Zb 12 G0 rfl (fun K hK=> ?_)
 go_simp
 refine hK _ _ ?_
 clear hK K
 refine⟨rfl,?_⟩
 have k2':SlK wT (V 2) (r2.1.map encI):=g2
 have hxT2:=hxq.trans hxT
 clear g65 g2 q65 hxT
 go_wp2
 go_ret2
 rw[HR3.out];exact⟨_,rfl,k2',hxT2⟩
theorem BW {l:List UInt8} {r:Gs.Rule} (h:Gs.find l=some r):((l,r)∈Gs.dir∧r.2.2.2=0)∨∃k c,l=k++[c]∧(k,r)∈Gs.dir∧r.2.2.2≠0∧48<=c.toNat∧c.toNat<=r.2.2.2.toNat:=by
 have key2:l≠ []->∀r',Gs.find2 l=some r'->∃k c,l=k++[c]∧(k,r')∈Gs.dir∧r'.2.2.2≠0∧48<=c.toNat∧c.toNat<=r'.2.2.2.toNat:=by intro hne r' h';unfold Gs.find2 at h';split at h';(·rename_i r1 h1;split at h';(·simp at h');·rename_i h2;simp only[I2]at h';subst h';rw[not_or,not_or]at h2;obtain⟨h3,h4,h5⟩:=h2;refine⟨l.take (l.length-1),l.getD (l.length-1) 0,?_,SQ h1,h3,?_,?_⟩;(·have e1:l.dropLast++[l.getLast hne]=l:=JZ hne;have e2:l.getD (l.length-1) 0=l.getLast hne:=(by rw[U0,List.getLast_eq_getElem,M0 (by have:=T6.2 hne;omega)];rfl);rw[e2,<-List.dropLast_eq_take];exact e1.symm);(·rw[Y7]at h4;have:(48:UInt8).toNat=48:=rfl;omega);·rw[Y7]at h5;omega);·simp at h'
 unfold Gs.find at h;split at h;·rename_i r1 h1;have hne:l≠ []:=(by intro e;rw[e,zX]at h1;simp at h1);split at h;(·rename_i h0;simp only[I2]at h;subst h;exact .inl ⟨SQ h1,h0⟩);·exact .inr (key2 hne _ h)
 ·split at h;(·simp at h);·rename_i hne;exact .inr (key2 hne _ h)
def Gs.sfx:List UInt8:=[48,49,50,51,52,53,54,55,56,57]
theorem eJ (c:UInt8) (h1:48<=c.toNat) (h2:c.toNat<=57):c∈Gs.sfx:=by
 have e:c=UInt8.ofNat c.toNat:=by simp
 have:c.toNat=48∨c.toNat=49∨c.toNat=50∨c.toNat=51∨c.toNat=52∨c.toNat=53∨c.toNat=54∨c.toNat=55∨c.toNat=56∨c.toNat=57:=by omega
 rw[e];rcases this with h|h|h|h|h|h|h|h|h|h<;>rw[h]<;>decide
def Gs.allAi (P:List UInt8->Gs.Rule->Bool):Bool:=Gs.dir.all fun p=>if p.2.2.2.2=0 then P p.1 p.2 else Gs.sfx.all fun c=>decide (p.2.2.2.2.toNat<c.toNat) || P (p.1++[c]) p.2
theorem Zmy:∀p∈Gs.dir,p.2.2.2.2.toNat<=57:=E2
theorem Zmr (P:List UInt8->Gs.Rule->Bool) (hP:Gs.allAi P=true) {l:List UInt8} {r:Gs.Rule} (h:Gs.find l=some r):P l r=true:=by
 unfold Gs.allAi at hP;rw[U1]at hP;rcases BW h with⟨h1,h2⟩|⟨k,c,rfl,h1,h2,h3,h4⟩;·have:=hP _ h1;rw[D0 h2]at this;exact F3
 ·have:=hP _ h1;rw[C0 h2,U1]at this;have h5:=this c (eJ c h3 (B4 h4 (Zmy _ h1)));simp only[B7,Y1]at h5;rcases h5 with h5|h5;(·omega);·exact h5
def Gs.aiOk (l:List UInt8):Bool:=decide (2<=l.length)&&decide (l.length<=4)&&l.all (fun c=>Cd.isDig c.toNat)&&(decide (l.length<=2) || (Gs.find (l.take 2)).isNone)&&(decide (l.length<=3) || (Gs.find (l.take 3)).isNone)
theorem Znu:Gs.allAi (fun l _=>Gs.aiOk l)=true:=E2
theorem V9 {l:List UInt8} {r:Gs.Rule} (h:Gs.find l=some r):2<=l.length∧l.length<=4∧Cd.AllDig l∧(2<l.length->Gs.find (l.take 2)=none)∧(3<l.length->Gs.find (l.take 3)=none):=by have:=Zmr _ Znu h;unfold Gs.aiOk at this;simp only[M2,B7,Y1,U1,Option.isNone_iff_eq_none]at this;obtain⟨⟨⟨⟨h1,h2⟩,h3⟩,h4⟩,h5⟩:=this;refine⟨h1,h2,fun c hc=> ?_,fun h=>h4.resolve_left B0,fun h=>h5.resolve_left B0⟩;have:=h3 c hc;simp[Cd.isDig]at this;omega
theorem BX {a d:List UInt8} (h:Gs.ver a d=0):∃r,Gs.find a=some r∧Gs.verR r d=0:=by
 unfold Gs.ver at h;split at h;·simp at h
 ·rename_i r hr;exact⟨r,hr,h⟩
theorem Zja {r:Gs.Rule} {d:List UInt8} (h:Gs.verR r d=0):r.2.1<=(d.length:Int)∧(d.length:Int)<=r.2.2.1∧d.all (Gs.okc r.1)=true:=by
 unfold Gs.verR at h;split at h;·simp at h
 ·split at h;(·simp at h);·rename_i h1 h2;exact⟨by omega,by omega,by simpa using h2⟩
theorem eK {x:Gs.El} {xs:List Gs.El} (h:Gs.verL (x::xs)=0):Gs.ver x.1 x.2=0∧Gs.verL xs=0:=by
 unfold Gs.verL at h;split at h;·rename_i h0;exact⟨h0,h⟩
 ·rename_i h0;exact absurd h h0
theorem PN (l:List Int):(∀b∈Gs.run l,b≠256∧b∈l)∧((Gs.run l=l)∨∃r,l=Gs.run l++256::r):=by
 induction l with
 |nil=>exact⟨by simp[Gs.run],.inl rfl⟩
 |cons b l ih=>by_cases h:b=256;(·subst h;simp[Gs.run]);·simp only[Gs.run,C0 h];refine⟨fun x hx=> ?_,?_⟩;(·rcases V3.1 hx with rfl|hx;(·exact⟨h,N2 ..⟩);·exact⟨(ih.1 x hx).1,V2 _ (ih.1 x hx).2⟩);·rcases ih.2 with e|⟨r,e⟩;(·left;rw[e]);·right;exact⟨r,by rw[J3,<-e]⟩
theorem BY (l:List Int):(Gs.run l).length<=l.length:=by
 rcases(PN l).2 with e|⟨r,e⟩;·rw[e];exact W9
 ·exact eL
theorem Zma (a b:List Int):Gs.text (a++b)=Gs.text a++Gs.text b:=E3
theorem eM (a:List UInt8):(Gs.ints a).length=a.length:=J0 _
theorem X9 (a:List Int):(Gs.text a).length=a.length:=J0 _
theorem ZjE (l:List Int) (h:∀b∈l,0<=b∧b<=127):Gs.ints (Gs.text l)=l:=by
 unfold Gs.text Gs.ints;rw[G7];conv=>rhs;rw[<-List.map_id l]
 refine PK fun c hc=> ?_;obtain⟨h1,h2⟩:=h c hc;simp only[Function.comp,Gs.byte,id];rw[Int.emod_eq_of_lt h1 B0];exact eN
theorem KG {l a:List UInt8} {r:Gs.Rule} (h:Gs.pre l=some (a,r)):Gs.find a=some r∧l.take a.length=a∧a.length<=l.length:=by
 have key:∀n,Gs.preN l n=some (a,r)->Gs.find a=some r∧l.take a.length=a∧a.length<=l.length:=by intro n hn;unfold Gs.preN at hn;split at hn;(·rename_i hle;rw[VO]at hn;obtain⟨r',h1,h2⟩:=hn;simp only[N3]at h2;obtain⟨rfl,rfl⟩:=h2;refine⟨h1,?_,by rw[M1];omega⟩;rw[M1,X6 hle]);·simp at hn
 unfold Gs.pre at h;rw[Option.or_eq_some_iff,Option.or_eq_some_iff]at h;rcases h with h|⟨_,h|⟨_,h⟩⟩;all_goals exact key _ h
theorem Zn2 {xs:List Gs.El} (hv:Gs.verL xs=0) (h:xs≠ []):Gs.chG xs≠ []:=by
 cases xs with
 |nil=>exact absurd rfl h
 |cons x xs=>obtain⟨h0,_⟩:=eK hv;obtain⟨r,h1,_⟩:=BX h0;have:=(V9 h1).1;intro e;have:=R0 List.length e;simp only[Gs.chG,T0,eM,O4]at this;omega
theorem eO (n:Nat) (acc:List Gs.El):Gs.fromF n [] acc=(acc,0):=by cases n<;>rfl
theorem BZ {c:List Int} (h:c.all Gs.okCh=true):∀b∈Gs.run c,0<=b∧b<=127:=by intro b hb;obtain⟨h1,h2⟩:=(PN c).1 b hb;have:=U1.1 h b h2;simp[Gs.okCh]at this;omega
theorem AA {c:List Int} {x:Gs.El} {k:Nat} (hc:c.all Gs.okCh=true) (h:Gs.next c=(x,k,0)):
 Gs.ver x.1 x.2=0∧0<k∧k<=c.length∧c=Gs.ints (x.1++x.2)++((if Gs.fixed x.1 || (c.drop k).isEmpty then []else [256])++c.drop k):=by
 have hrt:=BZ hc
 obtain⟨_,rc⟩:=PN c
 have rl:=BY c
 unfold Gs.next at h
 split at h
 ·simp at h
 ·rename_i hpos;split at h;(·simp at h)
  ·rename_i a r hp;obtain⟨p1,p2,p3⟩:=KG hp;obtain⟨ro1,ro2,ro3,ro4,ro5,ro6,ro7,ro8⟩:=XP p1;have hal:=(V9 p1).1;have hfx:Gs.fixed a=Gs.isFix r:=(by unfold Gs.fixed;rw[p1]);rw[X9]at p3;have hit:Gs.ints (Gs.text (Gs.run c))=Gs.run c:=ZjE _ hrt;have hcat:a++(Gs.text (Gs.run c)).drop a.length=Gs.text (Gs.run c):=(by(conv=>lhs;rw[<-p2]);rw[M1,X9,X6 p3,J7]);split at h;(·rename_i hf;split at h;(·simp at h);·rename_i hlen;split at h;(·exact eP);·rename_i hv;simp only[N3,X8]at h;obtain⟨rfl,rfl⟩:=h;dsimp only;refine⟨H6 hv,by omega,by omega,?_⟩;rw[hfx,hf];simp only[Bool.true_or,W4,P5];have e1:a++((Gs.text (Gs.run c)).drop a.length).take r.2.2.1.toNat=(Gs.text (Gs.run c)).take (a.length+r.2.2.1.toNat):=(by rw[List.take_add,p2]);have e2:Gs.ints ((Gs.text (Gs.run c)).take (a.length+r.2.2.1.toNat))=(Gs.run c).take (a.length+r.2.2.1.toNat):=(by unfold Gs.ints at hit⊢;rw[I3,hit]);rw[e1,e2];have e3:(Gs.run c).take (a.length+r.2.2.1.toNat)=c.take (a.length+r.2.2.1.toNat):=(by rcases rc with e|⟨q,e⟩;(·rw[e]);·(conv=>rhs;rw[e]);rw[SU B0]);rw[e3,J7])
   ·rename_i hf;split at h;(·exact eP)
    ·rename_i hv;split at h;(·simp at h)
     ·rename_i hend;simp only[N3,X8]at h;obtain⟨rfl,rfl⟩:=h;dsimp only;refine⟨H6 hv,by omega,by omega,?_⟩;rw[hfx,hcat,hit];have hf':Gs.isFix r=false:=(by simpa using hf);rw[hf'];rcases rc with e|⟨q,e⟩;(·rw[e];have:min (c.length+1) c.length=c.length:=B0;rw[this,KH];simp)
      ·have hl:c.length=(Gs.run c).length+1+q.length:=eL
       have hq:c.drop (min ((Gs.run c).length+1) c.length)=q:=by rw[X6 B0];have h5:(Gs.run c++256::q).drop ((Gs.run c).length+1)=q:=(by rw[<-W5,List.drop_left];rfl);exact(R0 (List.drop ((Gs.run c).length+1)) e).trans h5
       rw[hq]
       cases q with
       |nil=>simp at hl;omega
       |cons y ys=>simp;exact e
theorem Zla (n:Nat):∀(c:List Int) (acc res:List Gs.El),c.all Gs.okCh=true->c.length<=n->Gs.fromF n c acc=(res,0)->∃xs,res=acc++xs∧Gs.verL xs=0∧Gs.chG xs=c:=by
 induction n with
 |zero=>intro c acc res _ hl h;obtain rfl:=L4 (by omega:c.length=0);simp only[Gs.fromF,N3,X8]at h;exact⟨[],by simp[h],rfl,rfl⟩
 |succ n ih=>
  intro c acc res hc hl h;rw[Gs.fromF]at h;split at h;(·rename_i h0;simp only[N3,X8]at h;exact⟨[],by simp[h],rfl,by rw[h0];rfl⟩)
  ·rename_i h0;split at h;(·exact AC)
   ·rename_i h1;have h1:=H6 h1;generalize hn:Gs.next c=nx at*;obtain⟨x,k,e⟩:=nx;dsimp only at h h1;subst h1;obtain⟨v0,k0,k1,hcat⟩:=AA hc hn;obtain⟨xs,x1,x2,x3⟩:=ih (c.drop k) _ res (U1.2 fun b hb=>U1.1 hc b (M6 hb)) C8 h;refine⟨x::xs,by rw[x1,M3];rfl,by simp only[Gs.verL];rw[D0 v0];exact x2,?_⟩;have hemp:xs.isEmpty=(c.drop k).isEmpty:=by
     cases xs with
     |nil=>rw[<-x3];rfl
     |cons y ys=>
      have:=Zn2 x2 L0
      rw[x3]at this
      cases hd:c.drop k with
      |nil=>exact absurd hd this
      |cons _ _=>rfl
    simp only[Gs.chG];rw[hemp,x3];exact hcat.symm
theorem ZfA {xs:List Gs.El} {c:List Int} (h:Gs.frChars c=(xs,0)):Gs.chars xs=(c,0):=by
 unfold Gs.frChars at h;split at h;·simp at h
 ·split at h;(·simp at h)
  ·split at h;(·simp at h)
   ·split at h;(·simp at h)
    ·rename_i h1 h2 h3 h4
     cases c with
     |nil=>simp at h3
     |cons b c=>have h3:b=256:=H6 h3;subst h3;have h2:(256::c).all Gs.okCh=true:=B8;rw[LI,M2]at h2;obtain⟨ys,y1,y2,y3⟩:=Zla _ c [] xs h2.2 (by rw[D1];omega) h;rw[P5]at y1;subst y1;have hne:xs≠ []:=fun e=>h4 (by rw[<-y3,e];rfl);unfold Gs.chars Gs.verAll;rw[C0 hne,C0 (by simpa using y2),y3,C0 h1]
end
section
open Go.RowKit Go.WideMaps Go.Maps
def Gs.fixF (l:List UInt8):Int×Int×Int:=match Gs.find l with
 |none=>(0,0,29)
 |some r=>(if Gs.isFix r then r.2.2.1 else 0,r.2.2.1,0)
def preV:Option (List UInt8×Gs.Rule)->Value
 |none=>.tuple #[.string ⟨#[]⟩,ZK (0,0,0,0),.bool false]
 |some (a,r)=>.tuple #[encS a,ZK r,.bool true]
def PreR (o:Option (List UInt8×Gs.Rule)) (w:World) (e:Ending) (w':World):Prop:=e=.returned (preV o)∧Ext w w'
def ZW (w:World) (b:Nat) (r:Gs.Rule):Prop:=w.heap[b]? =some (.cells #[.int .i64 r.1,.int .i64 r.2.1,.int .i64 r.2.2.1,.int .u8 (r.2.2.2.toNat:Int)] 138 (0,0))
theorem ZW.cells {w:World} {b:Nat} {r:Gs.Rule} (h:ZW w b r):w.cell? ⟨b,0,none⟩=some (.int .i64 r.1)∧w.cell? ⟨b,1,none⟩=some (.int .i64 r.2.1)∧w.cell? ⟨b,2,none⟩=some (.int .i64 r.2.2.1)∧w.cell? ⟨b,3,none⟩=some (.int .u8 (r.2.2.2.toNat:Int)):=by unfold ZW at h;refine⟨?_,?_,?_,?_⟩;all_goals unfold World.cell?;rw[h];rfl
theorem ZW.free {w:World} {b:Nat} {r:Gs.Rule} (h:ZW w b r) (i:Nat):w.frozen? ⟨b,i,none⟩=false:=CK h i
theorem ZW.put {w:World} {b:Nat} {r:Gs.Rule} (h:ZW w b r) (q:Gs.Rule):ZW ((((w.setCell ⟨b,0,none⟩ (.int .i64 q.1)).setCell ⟨b,1,none⟩ (.int .i64 q.2.1)).setCell ⟨b,2,none⟩ (.int .i64 q.2.2.1)).setCell ⟨b,3,none⟩ (.int .u8 (q.2.2.2.toNat:Int))) b q:=
 B6 (B6 (B6 (B6 h _) _) _) _
theorem TJ {w:World} {b i:Nat} {cs:Array Value} {T:TypeId} {fr:Nat×Nat} {v:Value} (h:w.heap[b]? =some (.cells cs T fr)) (hi:i<cs.size):(w.setCell ⟨b,i,none⟩ v).cell? ⟨b,i,none⟩=some v:=by unfold World.cell?;rw[B6 h];simp[hi]
theorem ZW.puts {w:World} {b:Nat} {r:Gs.Rule} (h:ZW w b r) (q:Gs.Rule):
 (w.setCell ⟨b,0,none⟩ (.int .i64 q.1)).cell? ⟨b,0,none⟩=some (.int .i64 q.1)∧
 ((w.setCell ⟨b,0,none⟩ (.int .i64 q.1)).setCell ⟨b,1,none⟩ (.int .i64 q.2.1)).cell? ⟨b,1,none⟩=some (.int .i64 q.2.1)∧
 (((w.setCell ⟨b,0,none⟩ (.int .i64 q.1)).setCell ⟨b,1,none⟩ (.int .i64 q.2.1)).setCell ⟨b,2,none⟩ (.int .i64 q.2.2.1)).cell? ⟨b,2,none⟩=some (.int .i64 q.2.2.1)∧
 ((((w.setCell ⟨b,0,none⟩ (.int .i64 q.1)).setCell ⟨b,1,none⟩ (.int .i64 q.2.1)).setCell ⟨b,2,none⟩ (.int .i64 q.2.2.1)).setCell ⟨b,3,none⟩ (.int .u8 (q.2.2.2.toNat:Int))).cell? ⟨b,3,none⟩=some (.int .u8 (q.2.2.2.toNat:Int)):=
 ⟨TJ h L0,TJ (B6 h _) L0,TJ (B6 (B6 h _) _) L0,TJ (B6 (B6 (B6 h _) _) _) L0⟩
theorem ZW.puts0 {w:World} {b:Nat} {r:Gs.Rule} (h:ZW w b r):
 (w.setCell ⟨b,0,none⟩ (.int .i64 0)).cell? ⟨b,0,none⟩=some (.int .i64 0)∧
 ((w.setCell ⟨b,0,none⟩ (.int .i64 0)).setCell ⟨b,1,none⟩ (.int .i64 0)).cell? ⟨b,1,none⟩=some (.int .i64 0)∧
 (((w.setCell ⟨b,0,none⟩ (.int .i64 0)).setCell ⟨b,1,none⟩ (.int .i64 0)).setCell ⟨b,2,none⟩ (.int .i64 0)).cell? ⟨b,2,none⟩=some (.int .i64 0)∧
 ((((w.setCell ⟨b,0,none⟩ (.int .i64 0)).setCell ⟨b,1,none⟩ (.int .i64 0)).setCell ⟨b,2,none⟩ (.int .i64 0)).setCell ⟨b,3,none⟩ (.int .u8 0)).cell? ⟨b,3,none⟩=some (.int .u8 0):=h.puts (0,0,0,0)
theorem ZW.ext {w w':World} {b:Nat} {r:Gs.Rule} (h:ZW w b r) (hx:Ext w w'):ZW w' b r:=by unfold ZW at h⊢;exact eQ
theorem eR {l:List UInt8} (n:Nat) (h0:∀j,2<=j->j<n->Gs.preN l j=none) (h2:2<=n) (h4:n<=4) {a:List UInt8×Gs.Rule} (h:Gs.preN l n=some a):Gs.pre l=some a:=by
 unfold Gs.pre;have:n=2∨n=3∨n=4:=by omega
 rcases this with rfl|rfl|rfl;·rw[h];rfl
 ·rw[h0 2 B0 B0,h];rfl
 ·rw[h0 2 B0 B0,h0 3 B0 B0,h];rfl
theorem eS {l:List UInt8} (n:Nat) (h0:∀j,2<=j->j<n->Gs.preN l j=none) (h2:2<=n) (h:4<n∨l.length<n):Gs.pre l=none:=by
 have key:∀j,2<=j->j<=4->Gs.preN l j=none:=by intro j h1 h3;rcases P4 j n with hh|hh;(·exact h0 j h1 hh);·unfold Gs.preN;rw[C0 B0]
 unfold Gs.pre;rw[key 2 B0 B0,key 3 B0 B0,key 4 B0 B0];rfl
theorem ZiE (s:ByteArray) (b:Nat) (w:World) (hd:Dir w b) (hs:s.size<=1000000):
 Calls prog 218 #[.map (some b),.string s] w (PreR (Gs.pre s.data.toList) w):=by
 have HF:=A0 (fun(n:Nat) (w':World) (hx:Ext w w')=>yA (s.extract 0 n) b w' (hd.ext hx) eT)
 have HP:=A0 (@eR s.data.toList)
 have HN:=A0 (@eS s.data.toList)
 have HE:=A0 (fun n=>Gs.preN.eq_1 s.data.toList n)
 have HC:=A0 (fun n=>Zy s n)
 have hlen:=Zd s
 generalize Gs.pre s.data.toList=res at*
 generalize hl:s.data.toList=l at*
 clear hd hl
 have HL:=A0 hlen
 clear hlen
 go_enter func218,ntmps218
 go_wp2
 go_loopw [7] (fun t wr=>∃n:Nat,2<=n∧n<=5∧t=.int .i64 (n:Int)∧Hid (∀j,2<=j->j<n->Gs.preN l j=none)∧Ext w wr∧Hid (∃r,ZW wr w.heap.size r)) (fun t _=>5-(intOf t).toNat)
 case atStart=>exact⟨2,by omega,by omega,rfl,A0 (fun j h1 h2=>by omega),(Ext.refl w).alloc _,A0 ⟨(0,0,0,0),L2 _ _⟩⟩
 case round=>
  obtain⟨n,h2,h5,rfl,hno,hx,hr⟩:=hrel;by_cases h4:n<=4
  ·by_cases hle:n<=s.size
   ·obtain⟨r0,hr0⟩:=hr.out
    have H1:=A0 (HF.out n wr hx)
    have HE1:=A0 (HE.out n)
    rw[D0 (by rw[HL.out];exact hle)]at HE1
    rw[HC.out]at H1
    obtain⟨T,hT⟩:∃T,l.take n=T:=⟨_,rfl⟩
    rw[hT]at H1 HE1
    cases hg:Gs.find T with
    |none=>rw[hg]at H1 HE1;have HNX:Hid (∀j,2<=j->j<n+1->Gs.preN l j=none):=A0 (fun j h1 h3=>by rcases P4 j n with hh|hh;(·exact hno.out j h1 hh);·obtain rfl:j=n:=B0;exact HE1.out);clear hg hT HE1;go_wp2_with fail;refine H1.out.mono ?_;rintro e w1 ⟨rfl,hx1⟩;dsimp only[X7,ZK,Option.isSome];have hr1:=hr0.ext hx1;obtain⟨c0,c1,c2,c3⟩:=hr1.cells;have f0:=hr1.free 0;have f1:=hr1.free 1;have f2:=hr1.free 2;have f3:=hr1.free 3;have HR1:=A0 (hr1.put (0,0,0,0));have hxw:=hx.trans hx1;clear hx hx1 hr1 hr0 hr;go_wp2;go_roundw;(case rel=>exact⟨n+1,by omega,by omega,by go_num,HNX,(((hxw.setCell (K0 _) _).setCell (K0 _) _).setCell (K0 _) _).setCell (K0 _) _,A0 ⟨_,HR1.out⟩⟩);case measure=>exact Q8
    |some r=>rw[hg]at H1 HE1;have HRES:Hid (res=some (T,r)):=A0 (HP.out n hno.out h2 h4 (by rw[HE1.out];rfl));have HT:Hid (encS T=.string (s.extract 0 n)):=A0 (by rw[<-hT,<-HC.out,ZT]);clear hg HE1 HP HN hT;obtain⟨ra,rb,rc,rd⟩:=r;go_wp2_with fail;refine H1.out.mono ?_;rintro e w1 ⟨rfl,hx1⟩;dsimp only[X7,ZK,Option.isSome];have hr1:=hr0.ext hx1;obtain⟨c0,c1,c2,c3⟩:=hr1.cells;have f0:=hr1.free 0;have f1:=hr1.free 1;have f2:=hr1.free 2;have f3:=hr1.free 3;have hxw:=hx.trans hx1;clear hx hx1 hr0 hr;have hr2:=hr1.put (ra,rb,rc,rd);dsimp only at hr2;clear hr1;go_wp2;have hxw2:Ext w ((((w1.setCell ⟨w.heap.size,0,none⟩ (.int .i64 ra)).setCell ⟨w.heap.size,1,none⟩ (.int .i64 rb)).setCell ⟨w.heap.size,2,none⟩ (.int .i64 rc)).setCell ⟨w.heap.size,3,none⟩ (.int .u8 (rd.toNat:Int))):=(((hxw.setCell (K0 _) _).setCell (K0 _) _).setCell (K0 _) _).setCell (K0 _) _;generalize((((w1.setCell ⟨w.heap.size,0,none⟩ (.int .i64 ra)).setCell ⟨w.heap.size,1,none⟩ (.int .i64 rb)).setCell ⟨w.heap.size,2,none⟩ (.int .i64 rc)).setCell ⟨w.heap.size,3,none⟩ (.int .u8 (rd.toNat:Int)))=w2 at*;obtain⟨g0,g1,g2,g3⟩:=hr2.cells;dsimp only at g0 g1 g2 g3;have f0:=hr2.free 0;have f1:=hr2.free 1;have f2:=hr2.free 2;have f3:=hr2.free 3;have HQ:=A0 (hr2.puts (ra,rb,rc,rd));clear hr2 hxw c0 c1 c2 c3;go_region;all_goals go_wp2;obtain⟨p0,p1,p2,p3⟩:=HQ.out;refine V4 (v:=.tuple #[.string (s.extract 0 n),.agg #[.int .i64 ra,.int .i64 rb,.int .i64 rc,.int .u8 (rd.toNat:Int)],.bool true]) eU rfl ⟨by rw[HRES.out];simp only[preV,HT.out,ZK],Xf⟩
   ·have HRES:Hid (res=none):=A0 (HN.out n hno.out h2 (.inr (by rw[HL.out];omega)));obtain⟨r0,hr0⟩:=hr.out;obtain⟨c0,c1,c2,c3⟩:=hr0.cells;have f0:=hr0.free 0;have f1:=hr0.free 1;have f2:=hr0.free 2;have f3:=hr0.free 3;have HQ:=A0 hr0.puts0;have hle':(s.size:Int)<(n:Int):=B0;exact eV
  ·have HRES:Hid (res=none):=A0 (HN.out n hno.out h2 (.inl B0));obtain⟨r0,hr0⟩:=hr.out;obtain⟨c0,c1,c2,c3⟩:=hr0.cells;have f0:=hr0.free 0;have f1:=hr0.free 1;have f2:=hr0.free 2;have f3:=hr0.free 3;have HQ:=A0 hr0.puts0;exact eV
theorem ZfR (v:Value) (xs:List Gs.El) (b:Nat) (w:World) (hd:Dir w b) (hl:ESl w v xs) (hn:xs.length<=1000000000000) (hs:∀x∈xs,x.1.length<=maxLen∧x.2.length<=maxLen):
 Calls prog 58 #[.map (some b),v] w fun e w'=>e=.returned (.int .i64 (Gs.verAll xs))∧Ext w w':=by
 obtain⟨a,c,rfl⟩:=hl.form
 have HV:=A0 (fun(w':World) (hx:Ext w w') (ai d:ByteArray) (h1:ai.size<=maxLen) (h2:d.size<=maxLen)=>yW ai d b w' (hd.ext hx) h1 h2)
 have HL:=A0 hl
 have HS:=A0 hs
 have HR:=A0 (Gs.verAll.eq_1 xs)
 generalize Gs.verAll xs=res at*
 clear hl hd hs
 by_cases h0:xs=[]
 ·subst h0;rw[D0 rfl]at HR;clear HV HL HS;go_enter func58,ntmps58;go_wp2;go_ret;exact⟨Z1 HR.out.symm,Ext.refl _⟩
 ·rw[C0 h0]at HR;obtain⟨N,hN⟩:∃N,xs.length=N:=⟨_,rfl⟩;have hN0:0<N:=(by rw[<-hN];exact MM);have hN1:((N:Int)==0)=false:=O2;have HN:=A0 hN;rw[hN]at hn HL⊢;clear h0 hN;go_enter func58,ntmps58;go_wp2;go_loopw [13] (fun t wr=>∃k:Nat,k<=N∧t=.int .i64 (k:Int)∧Hid (res=Gs.verL (xs.drop k))∧Ext w wr) (fun t _=>N-(intOf t).toNat);(case atStart=>exact⟨0,O0 _,rfl,HR,Ext.refl w⟩);case round=>obtain⟨k,hk,rfl,hv,hx⟩:=hrel;by_cases hlt:k<N;(·obtain⟨x,hxk⟩:∃x,xs[k]? =some x:=⟨_,M0 WR⟩;obtain⟨bb,off,ha,hb,q0,q1⟩:=HL.out.at_ hxk;subst ha;have d0:=(hx.cell (p:=⟨bb,off+k*2,none⟩) hb).trans q0;have d1:=(hx.cell (p:=⟨bb,off+k*2+1,none⟩) hb).trans q1;have hdr:xs.drop k=x::xs.drop (k+1):=eW;have HV1:=A0 (hv.out.trans (by rw[hdr,Gs.verL]));obtain⟨s1,s2⟩:=HS.out x (J1 hxk);obtain⟨xa,xd⟩:=x;unfold encS at d0 d1;dsimp only at d0 d1 s1 s2 HV1;have HB:Hid ((⟨xa.toArray⟩:ByteArray).data.toList=xa∧(⟨xd.toArray⟩:ByteArray).data.toList=xd∧(⟨xa.toArray⟩:ByteArray).size<=maxLen∧(⟨xd.toArray⟩:ByteArray).size<=maxLen):=A0 (by simp[ByteArray.size];exact⟨s1,s2⟩);generalize(⟨xa.toArray⟩:ByteArray)=A at*;generalize(⟨xd.toArray⟩:ByteArray)=D at*;clear hxk q0 q1 hdr s1 s2 hv;go_wp2_with fail;obtain⟨b1,b2,b3,b4⟩:=HB.out;have H1:=A0 (HV.out _ (hx.alloc (.cells #[.string A,.string D] 86)) A D b3 b4);rw[b1,b2]at H1;clear b1 b2 b3 b4;by_cases hz:Gs.ver xa xd=0;(·rw[D0 hz]at HV1;rw[hz]at H1;clear hz;refine H1.out.mono ?_;rintro e w1 ⟨rfl,hx1⟩;clear d0 d1;go_wp2;go_roundw;(case rel=>exact⟨k+1,by omega,by go_num,HV1,(hx.alloc _).trans hx1⟩);case measure=>exact Q8);·rw[C0 hz]at HV1;obtain⟨z,hzz⟩:∃z,Gs.ver xa xd=z:=⟨_,rfl⟩;rw[hzz]at H1 HV1 hz;have hz1:(z==0)=false:=PO;clear hzz;refine H1.out.mono ?_;rintro e w1 ⟨rfl,hx1⟩;clear d0 d1;go_wp2;go_ret;exact⟨Z1 HV1.out.symm,(hx.alloc _).trans hx1⟩);·exact eX
end
end Go.Proofs.YtbngggoccndefaaGreatDoor
