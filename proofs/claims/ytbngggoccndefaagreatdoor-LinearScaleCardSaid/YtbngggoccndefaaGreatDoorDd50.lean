/-
  Laid together.
-/
import Derived.Test.YtbngggoccndefaaGreatDoorDd31
import Derived.Test.YtbngggoccndefaaGreatDoorDd48
set_option maxHeartbeats 16000000
set_option maxRecDepth 100000
set_option linter.unusedVariables false
set_option linter.unusedSimpArgs false
set_option linter.ambiguousOpen false
namespace Go.Proofs.YtbngggoccndefaaGreatDoor
open Go.Proofs.Tryz
section
open Go.RowKit
theorem law_scale (v:Value) (m:List Bool) (K:Nat) (w:World) (hv:SlK w v (m.map encT)) (hm:m.length<=9223372036854775807) (hK:K<=255) (ht:Spaces w):
 Calls prog 7 #[v,.int .u8 (K:Int)] w fun e w'=>e=.returned (.bool true)∧Ext w w':=by
 have HT:=ZmE ht
 have HAW:=ZmE Zez
 have HV:=ZmE hv
 obtain⟨-,a,c,rfl,-⟩:=hv
 rw[ZmI]at HV⊢
 obtain⟨n,hn⟩:∃n,n=m.length:=⟨_,rfl⟩
 rw[<-hn]at HV hm⊢
 have HN:=ZmE hn
 clear hn
 by_cases hl:1000<n∨K<1∨8<K
 ·by_cases h0:1000<n;(·have hlI:1000<(n:Int):=QhN;exact Qg6);have hlI:¬1000<(n:Int):=QhN;by_cases h1:K<1;(·have h1I:(K:Int)<1:=QhN;exact Qg6);have h1I:¬(K:Int)<1:=QhN;have h2I:(8:Int)<(K:Int):=QhN;exact Qg6
 have hlI:¬1000<(n:Int):=by omega
 have h1I:¬(K:Int)<1:=by omega
 have h2I:¬(8:Int)<(K:Int):=by omega
 have HW:=ZmE (Zax _ m w HV.out QhW)
 obtain⟨hwin,hwlen⟩:=Rn.widths_in m
 have HU:=ZmE (fun v w' (h:Sl w' v ((Rn.widths m).map encI))=>Zjn v (Rn.widths m) w' h (by rw[<-HN.out]at hwlen;omega) (fun x hx=>by have:=hwin x hx;rw[<-HN.out]at this;omega))
 have HD:=ZmE (fun w' (h:Ext w w')=>ZaM _ m w' (HV.out.ext h) QhW (Zv HT.out h))
 have HMG:=ZmE (fun w' (h:Ext w w')=>Zbr _ m w' (HV.out.ext h) QhW)
 have HSC:=ZmE (@Ln.scale m K QhN QhN QhW)
 have HDK:=ZmE (@Ln.decode_dark m)
 have HST:=ZmE (fun(h:1<=m.length) w' (hx:Ext w w')=>Zf8 _ m K w' (HV.out.ext hx).1 QhW h QhN QhN)
 have HRD:=ZmE (fun v w' (h:SlK w' v ((Rn.stretch K m).map encT)) (hx:Ext w w')=>Zcv v (Rn.stretch K m) w' h (by have:=Zba K m m.length;rw[ZnN,<-HN.out]at this;have h2:n*K<=1000*8:=ZoN QhN QhN;omega) (Zv HT.out hx))
 obtain⟨U,hU⟩:∃U,U=Rn.unit (Rn.widths m):=⟨_,rfl⟩
 rw[<-hU]at HU HSC
 have HK:=ZmE (show 1<=K∧K<=8 by omega)
 clear hU hwin hwlen hl hK ht hm
 by_cases hu:U≠1
 ·have hub:(U !=1)=true:=ZnA.2 hu;clear hu HSC HST HRD HD HMG HDK;go_enter func7,ntmps7;go_wp2_with fail;refine HW.out.mono ?_;rintro e w1 ⟨u,rfl,hu1,hx1⟩;go_wp2_with fail;refine(HU.out u w1 hu1.1).mono ?_;rintro e w2 ⟨rfl,hx2⟩;have HX:=ZmE (hx1.trans hx2);clear hx1 hx2 hu1;go_wp2_with fail;refine(HAW.out _ (Zv HT.out HX.out)).mono ?_;rintro e w3 ⟨rfl,hx3⟩;go_wp2;go_ret;exact⟨rfl,HX.out.trans hx3⟩
 obtain rfl:U=1:=ZnH.1 hu
 obtain⟨⟨⟨k,s,ad⟩,er⟩,hd⟩:∃r,r=Ln.decode m:=⟨_,rfl⟩
 rw[<-hd]at HD HSC HDK
 unfold gotV linV at HD
 dsimp only at HD HSC HDK
 clear hd hu
 by_cases he:er≠0
 ·have heb:(er !=0)=true:=ZnA.2 he;clear he HSC HST HRD HMG HDK;go_enter func7,ntmps7;go_wp2_with fail;refine HW.out.mono ?_;rintro e w1 ⟨u,rfl,hu1,hx1⟩;go_wp2_with fail;refine(HU.out u w1 hu1.1).mono ?_;rintro e w2 ⟨rfl,hx2⟩;have HX:=ZmE (hx1.trans hx2);clear hx1 hx2 hu1;go_wp2_with fail;refine(HD.out w2 HX.out).mono ?_;rintro e w3 ⟨rfl,hx3⟩;have HX3:=ZmE ((HX.out.trans hx3).alloc (.cells #[.int .i64 k,.string (Ea.bS s),.string (Ea.bS ad)] 33));clear hx3;go_wp2_with fail;refine(HAW.out _ (Zv HT.out HX3.out)).mono ?_;rintro e w4 ⟨rfl,hx4⟩;go_wp2;go_ret;exact⟨rfl,HX3.out.trans hx4⟩
 obtain rfl:er=0:=ZnH.1 he
 clear he
 have hml:1<=m.length:=by
  have h1:=HDK.out rfl
  cases m with
  |nil=>exact absurd rfl h1
  |cons x l=>simp
 have HST2:=ZmE (HST.out hml)
 obtain⟨L,hL⟩:∃L,L=Ea.ldg m:=⟨_,rfl⟩
 obtain⟨R,hR⟩:∃R,R=Ea.trl m:=⟨_,rfl⟩
 rw[<-hL]at HMG HSC
 rw[<-hR]at HMG HSC
 obtain⟨⟨⟨k2,s2,ad2⟩,e2⟩,hrd⟩:∃r,r=Ln.read (Rn.stretch K m):=⟨_,rfl⟩
 rw[<-hrd]at HRD HSC
 unfold gotV linV at HRD
 dsimp only at HRD
 obtain⟨mK,hmK⟩:∃mK,mK=Rn.stretch K m:=⟨_,rfl⟩
 rw[<-hmK]at HST2 HRD
 clear hL hR hrd hmK HST HDK hml
 have HEQ:=ZmE (fun w'=>Zdb w' k2 k (Ea.bS s2) (Ea.bS ad2) (Ea.bS s) (Ea.bS ad))
 obtain⟨B,hB⟩:∃B,B=(k2==k&&((Ea.bS s2).toList==(Ea.bS s).toList&&(Ea.bS ad2).toList==(Ea.bS ad).toList)):=⟨_,rfl⟩
 rw[<-hB]at HEQ
 have HOK:Hid (e2=0∧B=true∨64<L∨64<R):=ZmE (by by_cases h:L<=64∧R<=64;(·have h3:=HSC.out rfl rfl h.1 h.2;simp only[Zn4]at h3;obtain⟨⟨rfl,rfl,rfl⟩,rfl⟩:=h3;refine .inl ⟨rfl,?_⟩;rw[hB];exact Qfg);·omega)
 generalize Ea.bS s=S1 at*
 generalize Ea.bS ad=A1 at*
 generalize Ea.bS s2=S2 at*
 generalize Ea.bS ad2=A2 at*
 clear hB HSC
 have fin:∀(hcs:(e2=0∧B=true)∨(e2=0∧B=false∧64<L)∨(e2=0∧B=false∧¬64<L∧64<R)∨(e2≠0∧64<L)∨(e2≠0∧¬64<L∧64<R)),Calls prog 7 #[.slice a n c,.int .u8 (K:Int)] w fun e w'=>e=.returned (.bool true)∧Ext w w':=by intro hcs;go_enter func7,ntmps7;go_wp2_with fail;refine HW.out.mono ?_;rintro e w1 ⟨u,rfl,hu1,hx1⟩;go_wp2_with fail;refine(HU.out u w1 hu1.1).mono ?_;rintro e w2 ⟨rfl,hx2⟩;have HX:=ZmE (hx1.trans hx2);clear hx1 hx2 hu1;go_wp2_with fail;refine(HD.out w2 HX.out).mono ?_;rintro e w3 ⟨rfl,hx3⟩;have HX3:=ZmE ((HX.out.trans hx3).alloc (.cells #[.int .i64 k,.string S1,.string A1] 33));have HB3:=ZmE (Znx w3 (.cells #[.int .i64 k,.string S1,.string A1] 33));clear hx3;go_wp2_with fail;refine(HST2.out _ HX3.out).mono ?_;rintro e w4 ⟨v4,rfl,hv4,hx4⟩;have HX4:=ZmE (HX3.out.trans hx4);have HB4:=ZmE (Zd HB3.out hx4);have HV4:=ZmE hv4;dsimp only at HV4⊢;clear hv4 hx4;go_wp2_with fail;refine(HMG.out _ HX4.out).mono ?_;rintro e w5 ⟨rfl,rfl⟩;go_wp2_with fail;refine(HRD.out v4 _ HV4.out HX4.out).mono ?_;rintro e w6 ⟨rfl,hx6⟩;obtain⟨p0,p1,p2,p3,-,-,-,-⟩:=Zf (Zd HB4.out hx6);have HX6:=ZmE ((HX4.out.trans hx6).alloc (.cells #[.int .i64 k2,.string S2,.string A2] 33));clear hx6;have hEQ:=HEQ.out;rcases hcs with⟨rfl,rfl⟩|⟨rfl,rfl,h⟩|⟨rfl,rfl,h,h'⟩|⟨he,h⟩|⟨he,h,h'⟩;all_goals(try have hL1:(64:Int)<(L:Int):=by omega);(try have hL2:¬(64:Int)<(L:Int):=by omega);(try have hR1:(64:Int)<(R:Int):=by omega);(try have hE:(e2==0)=false:=ZmJ.2 he);go_wp2_with fail;refine(HAW.out _ (Zv HT.out HX6.out)).mono ?_;rintro e w7 ⟨rfl,hx7⟩;go_wp2;go_ret;exact⟨rfl,HX6.out.trans hx7⟩
 apply fin
 rcases HOK.out with⟨h1,h2⟩|h|h
 ·exact .inl ⟨h1,h2⟩
 ·by_cases h0:e2=0;(·cases B;(·exact .inr (.inl ⟨h0,rfl,h⟩));·exact .inl ⟨h0,rfl⟩);·exact .inr (.inr (.inr (.inl ⟨h0,h⟩)))
 ·by_cases h0:e2=0;(·cases B;(·by_cases hL:64<L;(·exact .inr (.inl ⟨h0,rfl,hL⟩));·exact .inr (.inr (.inl ⟨h0,rfl,hL,h⟩)));·exact .inl ⟨h0,rfl⟩);·by_cases hL:64<L;(·exact .inr (.inr (.inr (.inl ⟨h0,hL⟩))));·exact .inr (.inr (.inr (.inr ⟨h0,hL,h⟩)))
end
end Go.Proofs.YtbngggoccndefaaGreatDoor
