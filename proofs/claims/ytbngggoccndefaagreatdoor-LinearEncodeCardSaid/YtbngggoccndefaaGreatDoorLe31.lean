/-
  Laid.
-/
import Derived.Test.YtbngggoccndefaaGreatDoorLe16
import Derived.Test.YtbngggoccndefaaGreatDoorLe30
set_option maxHeartbeats 8000000
set_option maxRecDepth 100000
set_option linter.all false
namespace Go.Proofs.Enc
open Go.Proofs.Tryz
section
open Go.RowKit
def Zi7(k:Nat)(l:List UInt8)(r:Int)(check:Bool):(Tw.encK k l r check).1.length<=100000:=by
 unfold Tw.encK
 repeat' split
 all_goals first|exact R0 _|skip
 rename_i h1 h2 h3 h4;have e:(Tw.widths r (Tw.Er k (Tw.IJ k l check).1)).length=(Tw.Er k (Tw.IJ k l check).1).length:=M0 _;dsimp only;rw[e];have a:=EZ k (Tw.IJ k l check).1;have b:=ZjB k l check;omega
def fL(kind:Int)(l:List UInt8)(r:Int)(check:Bool):(Tw.enc kind l r check).1.length<=100000:=by
 unfold Tw.enc
 repeat' split
 all_goals first|exact Zi7 _ _ _ _|exact R0 _
def fM{ws:List Int}(h:(Rn.modules ws).2=0):1<=(Rn.modules ws).1.length/\(Rn.modules ws).1.length<=65536:=by
 obtain⟨h1,h2,h3⟩:=Ln.modules_ok h;rw[h3];have h4:=Rn.mods_len ws true h2;have h5:=Rn.sum_pos ws h2;have h6:¬65536<Rn.sum ws:=λh6=>by unfold Rn.modules at h;split at h;(·cases h);·split at h;(·cases h);·split at h;(·cases h);·first|cases h|(rw[G0 h6]at h;cases h)
 omega
def Zgv(k:Int)(s:ByteArray)(r:Int)(ck:Bool)(a:ByteArray)(hs:s.size<=1000)(w:World):
 Calls prog 29 #[.int .i64 k,.string s,.agg #[.int .i64 r,.bool ck,.string a]] w (ZD (Ln.encTwo k s.data.toList r ck) w):=by
 have HE:=B0 (λw=>Zi8 k s r ck a w C0);have HX:=B0 (Ln.encTwo.eq_1 k s.data.toList r ck);have hb:=fL k s.data.toList r ck;generalize Ln.encTwo k s.data.toList r ck=res at*;generalize Tw.enc k s.data.toList r ck=en at*;obtain⟨ws,er⟩:=en;dsimp only at HX hb;by_cases h0:er=0
 .subst h0;rw[D0 I0]at HX;have Ls:=B0 (λh=> @fM ws h);have HM:=B0 (λ(v:Value)(w:World) hv=>BD v ws w hv C0);generalize Rn.modules ws=mo at*;obtain⟨m,e2⟩:=mo;dsimp only at HX Ls;by_cases h2:e2=0;(·subst h2;rw[D0 I0]at HX;obtain⟨Be,Cl⟩:=Ls.out rfl;have HSU:=B0 (λ(v:Value)(w:World) hv=>bJ v m 10 10 w hv C0 Be C0 C0);generalize Ln.quiet m 10 10=qs at*;clear hb Be Cl Ls;go_enter func29,ntmps29;go_wp2_with fail;refine(HE.out _).mono ?_;rintro e w1 ⟨u,rfl,hu,b7⟩;go_wp2_with fail;refine(HM.out _ _ hu).mono ?_;rintro e w2 ⟨u2,rfl,ID,j0⟩;go_wp2_with fail;refine(HSU.out _ _ ID.1).mono ?_;exact fN);·have hz:(e2 !=0)=true:=R1.2 h2;rw[G0 h2]at HX;clear h2 hb Ls;go_enter func29,ntmps29;go_wp2_with fail;refine(HE.out _).mono ?_;rintro e w1 ⟨u,rfl,hu,b7⟩;go_wp2_with fail;refine(HM.out _ _ hu).mono ?_;exact fO
 .have hz:(er !=0)=true:=R1.2 h0;rw[G0 h0]at HX;clear h0 hb;go_enter func29,ntmps29;go_wp2_with fail;refine(HE.out _).mono ?_;exact fP
def fQ{l:List UInt8}{j:Nat}{x:UInt8}(h:l[j]? =some x):(Gs.ints l)[j]? =some (x.toNat:Int):=by unfold Gs.ints;rw[B3,h];rfl
def ZfS(s:ByteArray)(hs:s.size<=1000)(w:World):
 Calls prog 30 #[.string s] w (ZD (Ln.encCode s.data.toList) w):=by
 have j8:s.data.toList.length=s.size:=Za s;have HNL:=B0 j8;obtain⟨wm,IT,Ef,Bg⟩:=TO w s.size w.heap.size C0 (J0 _);have Ib:=B0 Ef;have Gw:=B0 Bg;have HX:=B0 (Ln.encCode.eq_1 s.data.toList);have HCE:=B0 (λ(v:Value)(w:World) hv x7=>eJ v (Gs.ints s.data.toList) w hv (by rw[F9,j8];omega) x7);generalize Ln.encCode s.data.toList=res at*;have Hz:Hid ((Gs.ints s.data.toList).length=s.size):=B0 (by rw[F9,j8]);clear Ef Bg j8;go_enter func30,ntmps30;go_wp2_with fail;go_loopw [11] (λt wr=>∃j:Nat,j<=s.size/\t=.int .i64 (j:Int)/\Hid (∀b∈s.data.toList.take j,b.toNat<=127)/\Hid (Own 3 wr w.heap.size (.slice (some ⟨w.heap.size,0,none⟩) s.size s.size) (((Gs.ints s.data.toList).take j++List.replicate (s.size-j) (0:Int)).map encI))/\Hid (Ext w wr)) (λt _=>s.size-(intOf t).toNat)
 case atStart=>exact⟨0,R0 _,rfl,B0 (λb hb=>by cases hb),Ib,Gw⟩
 case round=>
 clear Ib Gw IT;rename World=>wr
 obtain⟨j,hj,rfl,HA,HO,Vf⟩:=hrel;by_cases hlt:j<s.size
 .have Bx:(j:Int)<(s.size:Int):=C0;have h1:s.data.toList[j]? =some s[j]:=P0 VE;obtain⟨b,hb⟩:∃b,s[j]=b:=⟨_,rfl⟩;rw[hb]at h1;have HI:=B0 (fQ h1);by_cases h7:127<b.toNat;(·exact fR);·have h7I:¬(127:Int)<(b.toNat:Int):=C0;have Wu:Hid (∀b∈s.data.toList.take (j+1),b.toNat<=127):=B0 (λc hc=>by rw[M5,h1]at hc;rcases E3.1 hc with hc|hc;(·exact HA.out c hc);·simp at hc;subst hc;omega);have hlen:((Gs.ints s.data.toList).take j++List.replicate (s.size-j) (0:Int)).length=s.size:=(by rw[S0,J1,M2,Hz.out];omega);obtain⟨xo,co,fo⟩:=HO.out.aAA (i:=j) (by rw[hlen];exact hlt);have Fs:=(HO.out.Pv j (b.toNat:Int)).1;rw[KO Hz.out HI.out]at Fs;have Ed:=B0 Fs;have Fc:Hid (Ext w (wr.setCell ⟨w.heap.size,j,none⟩ (.int .i64 (b.toNat:Int)))):=B0 (Vf.out.setCell (p:=⟨w.heap.size,j,none⟩) (J0 _) _);clear h1 h7 Fs hlen;go_wp2_with fail;go_roundw;(case rel=>exact⟨j+1,by omega,by go_num,Wu,Ed,Fc⟩);case measure=>exact Qr
 obtain rfl:j=s.size:=by omega
 have Ff:s.data.toList.any (λc=>decide (127<c.toNat))=false:=fS;rw[Ff,D0 Bool.noConfusion]at HX;have Ag:=B0 (Ln.okC_ints Ff);have Hf:Hid (Own 3 wr w.heap.size (.slice (some ⟨w.heap.size,0,none⟩) s.size s.size) ((Gs.ints s.data.toList).map encI)):=B0 (by have h:=HO.out;rw[Y3,XH,A3,S1 (by rw[Hz.out];exact J0 _)]at h;exact h);clear Ff HA HO hj hlt;go_wp2_with fail;refine(HCE.out _ _ Hf.out.sl Ag.out).mono ?_;rintro e w5 ⟨u,rfl,hu,j5⟩;go_wp2;go_ret2;rw[HX.out];exact⟨_,rfl,hu,Vf.out.trans j5⟩
def fT:∀xs:List Gs.El,(Gs.chG xs).length<=(xs.flatMap Gs.fmtE).length
 | []=>by simp[Gs.chG]
 |x::xs=>by have ih:=fT xs;unfold Gs.chG;rw[M7,S0,S0,S0,F9,S0];have h2:(Gs.fmtE x).length=x.1.length+x.2.length+2:=(by unfold Gs.fmtE;exact X0);have h3:(if Gs.fixed x.1 || xs.isEmpty then([]:List Int)else [256]).length<=1:=(by split<;>simp);omega
def fU{l:List UInt8}{xs:List Gs.El}(h:Gs.parse l=(xs,0)):Gs.verL xs=0/\xs.flatMap Gs.fmtE=l/\xs.length<=l.length:=by
 have hf:=ZeE h;unfold Gs.format at hf;split at hf;·rename_i h1;simp only[Y2]at hf;exact absurd hf.2 h1
 .rename_i h1;split at hf;(·simp at hf)
  .simp only[Y2,W5]at hf;refine⟨OB (L5 h1),hf,?_⟩;rw[<-hf];have:∀ys:List Gs.El,ys.length<=(ys.flatMap Gs.fmtE).length:=by
    intro ys
    induction ys with
    |nil=>simp
    |cons y ys ih=>rw[M7,S0,B1];have:1<=(Gs.fmtE y).length:=(by unfold Gs.fmtE;simp);omega
   exact this xs
def Zgu(s:ByteArray)(hs:s.size<=900)(w:World)(ht:ZQ w):
 Calls prog 31 #[.string s] w (ZD (Ln.encGs s.data.toList) w):=by
 have j8:s.data.toList.length=s.size:=Za s;have HP:=B0 (Zkk s O3 w ht);have HX:=B0 (Ln.encGs.eq_1 s.data.toList);have HFA:=B0 (λxs h=> @fU s.data.toList xs h);have HT:=B0 ht;generalize Ln.encGs s.data.toList=res at*;generalize Gs.parse s.data.toList=pr at*;obtain⟨xs,e1⟩:=pr;dsimp only at HX;clear ht;by_cases h1:e1=0
 .subst h1;rw[D0 I0]at HX;obtain⟨g1,g2,g3⟩:=HFA.out xs rfl;have x8:(256::Gs.chG xs).length<=1000:=fV;have hxl:xs.length<=1000:=C0;(have o4:∀x∈xs,x.1.length<=maxLen/\x.2.length<=maxLen:=λx hx=>by have:=VP (SG g1 x hx);exact B8);have HC:=B0 (λ(v:Value)(w:World) hv ht=>Zj6 v xs w hv C0 o4 ht);have Fz:=B0 (λc h=> @Ln.chars_okC xs c h);have Eb:Hid (∀c,Gs.chars xs=(c,0)->c.length<=1000):=B0 (λc h=>by unfold Gs.chars at h;split at h;(·exact fW);·split at h;(·simp at h);·simp only[Y2,W5]at h;rw[<-h];exact x8);generalize Gs.chars xs=ch at*;obtain⟨cs,e2⟩:=ch;dsimp only at HX;clear g1 g2 g3 x8 o4 HFA j8;by_cases h2:e2=0;(·subst h2;rw[D0 I0]at HX;have x7:=(Fz.out cs rfl).1;have x8:=Eb.out cs rfl;have HEN:=B0 (λ(v:Value)(w:World) hv=>eJ v cs w hv x8 x7);clear x7 x8 Fz Eb;go_enter func31,ntmps31;go_wp2_with fail;refine HP.out.mono ?_;rintro e w1 ⟨u,rfl,hu,b7⟩;have Bq:=B0 (Z4 HT.out b7);go_wp2_with fail;refine(HC.out _ _ hu Bq.out).mono ?_;rintro e w2 ⟨u2,rfl,ID,j0⟩;go_wp2_with fail;refine(HEN.out _ _ ID.1).mono ?_;rintro e w3 ⟨u3,rfl,Fw,j4⟩;go_wp2;go_ret2;rw[HX.out];exact⟨_,rfl,Fw,(b7.trans j0).trans j4⟩);·have hz:(e2 !=0)=true:=R1.2 h2;rw[G0 h2]at HX;clear h2 Fz Eb;go_enter func31,ntmps31;go_wp2_with fail;refine HP.out.mono ?_;rintro e w1 ⟨u,rfl,hu,b7⟩;have Bq:=B0 (Z4 HT.out b7);go_wp2_with fail;refine(HC.out _ _ hu Bq.out).mono ?_;rintro e w2 ⟨u2,rfl,ID,j0⟩;go_wp2;go_ret2;rw[HX.out];exact⟨_,rfl,SlK.nil _,b7.trans j0⟩
 .have hz:(e1 !=0)=true:=R1.2 h1;rw[G0 h1]at HX;clear h1 HFA;go_enter func31,ntmps31;go_wp2_with fail;refine HP.out.mono ?_;rintro e w1 ⟨u,rfl,hu,b7⟩;go_wp2;go_ret2;rw[HX.out];exact⟨_,rfl,SlK.nil _,b7⟩
def ZiA(k:Int)(hk:k=5\/k=6\/k=7)(s:ByteArray)(r:Int)(ck:Bool)(a:ByteArray)(hs:s.size<=60)(w:World):
 Calls prog 10 #[.int .i64 k,.string s,.agg #[.int .i64 r,.bool ck,.string a]] w (ZD (Ln.encFin (Ln.encTwo k s.data.toList r ck)) w):=by
 have HE:=B0 (λ(w':World)(_:Ext w w')=>Zgv k s r ck a C0 w');generalize Ln.encTwo k s.data.toList r ck=res at*;obtain⟨m,er⟩:=res;have HX:=B0 (Ln.encFin.eq_1 (m,er));dsimp only at HX;generalize Ln.encFin (m,er)=out at*;by_cases h0:er=0
 .subst h0;rw[D0 I0]at HX;by_cases hl:65536<m.length;(·have hlI:65536<(m.length:Int):=C0;rw[G0 hl]at HX;clear hl;rcases hk with rfl|rfl|rfl;all_goals go_enter func10,ntmps10;go_wp2_with fail;refine(HE.out _ ((Ext.refl w).alloc _)).mono ?_;rintro e w1 ⟨v1,rfl,Aw,b7⟩;obtain⟨-,a1,c1,rfl,-⟩:=Aw;rw[M0];go_wp2;go_ret2;exact⟨_,by rw[HX.out];rfl,by rw[HX.out];exact SlK.nil _,((Ext.refl w).alloc _).trans b7⟩);·have hlI:¬65536<(m.length:Int):=C0;rw[D0 hl]at HX;clear hl;rcases hk with rfl|rfl|rfl;all_goals go_enter func10,ntmps10;go_wp2_with fail;refine(HE.out _ ((Ext.refl w).alloc _)).mono ?_;rintro e w1 ⟨v1,rfl,Aw,b7⟩;have HV:=B0 Aw;obtain⟨-,a1,c1,rfl,-⟩:=Aw;dsimp only at HV;rw[M0]at HV⊢;go_wp2;go_ret2;exact⟨_,by rw[HX.out];rfl,by rw[HX.out];exact HV.out,((Ext.refl w).alloc _).trans b7⟩
 .have hb:(er !=0)=true:=R1.2 h0;rw[G0 h0]at HX;clear h0;rcases hk with rfl|rfl|rfl;all_goals go_enter func10,ntmps10;go_wp2_with fail;refine(HE.out _ ((Ext.refl w).alloc _)).mono ?_;rintro e w1 ⟨v1,rfl,Aw,b7⟩;go_wp2;go_ret2;exact⟨_,by rw[HX.out];rfl,by rw[HX.out];exact SlK.nil _,((Ext.refl w).alloc _).trans b7⟩
def Zhn(k:Int)(hk:k=8)(s:ByteArray)(r:Int)(ck:Bool)(a:ByteArray)(hs:s.size<=60)(w:World):
 Calls prog 10 #[.int .i64 k,.string s,.agg #[.int .i64 r,.bool ck,.string a]] w (ZD (Ln.encFin (Ln.encCode s.data.toList)) w):=by
 have HE:=B0 (λ(w':World)(_:Ext w w')=>ZfS s C0 w');generalize Ln.encCode s.data.toList=res at*;obtain⟨m,er⟩:=res;have HX:=B0 (Ln.encFin.eq_1 (m,er));dsimp only at HX;generalize Ln.encFin (m,er)=out at*;by_cases h0:er=0
 .exact QV
 .exact fX
def ZjL(k:Int)(hk:k=9)(s:ByteArray)(r:Int)(ck:Bool)(a:ByteArray)(hs:s.size<=60)(w:World)(ht:ZQ w):
 Calls prog 10 #[.int .i64 k,.string s,.agg #[.int .i64 r,.bool ck,.string a]] w (ZD (Ln.encFin (Ln.encGs s.data.toList)) w):=by
 have HE:=B0 (λ(w':World)(h:Ext w w')=>Zgu s C0 w' (Z4 ht h));generalize Ln.encGs s.data.toList=res at*;obtain⟨m,er⟩:=res;have HX:=B0 (Ln.encFin.eq_1 (m,er));dsimp only at HX;generalize Ln.encFin (m,er)=out at*;by_cases h0:er=0
 .exact QV
 .exact fX
def Zi9(k:Int)(h:k≠1/\k≠2/\k≠3/\k≠4/\k≠5/\k≠6/\k≠7/\k≠8/\k≠9)(s:ByteArray)(r:Int)(ck:Bool)(a:ByteArray)(w:World):
 Calls prog 10 #[.int .i64 k,.string s,.agg #[.int .i64 r,.bool ck,.string a]] w (ZD ([],1) w):=by
 obtain⟨h1,h2,h3,h4,h5,h6,h7,h8,h9⟩:=h;have z1:(k==1)=false:=O0.2 h1;have z2:(k==2)=false:=O0.2 h2;have z3:(k==3)=false:=O0.2 h3;have z4:(k==4)=false:=O0.2 h4;have z5:(k==5)=false:=O0.2 h5;have z6:(k==6)=false:=O0.2 h6;have z7:(k==7)=false:=O0.2 h7;have z8:(k==8)=false:=O0.2 h8;have z9:(k==9)=false:=O0.2 h9;clear h1 h2 h3 h4 h5 h6 h7 h8 h9;go_enter func10,ntmps10;go_wp2;go_ret2;exact⟨_,rfl,SlK.nil _,(Ext.refl w).alloc _⟩
def ZiS(k:Int)(s:ByteArray)(r:Int)(ck:Bool)(a:ByteArray)(hs:s.size<=60)(ha:a.size<=60)(w:World)(ht:ZQ w):
 Calls prog 10 #[.int .i64 k,.string s,.agg #[.int .i64 r,.bool ck,.string a]] w (ZD (Ln.encode k s.data.toList r ck a.data.toList) w):=by
 unfold Ln.encode Ln.aAK;by_cases h1:k=1\/k=2\/k=3\/k=4
 .rw[G0 h1];exact dT k h1 s r ck a C0 C0 w
 rw[D0 h1];by_cases h5:k=5\/k=6\/k=7
 .rw[G0 h5];exact ZiA k h5 s r ck a hs w
 rw[D0 h5];by_cases h8:k=8
 .rw[G0 h8];exact Zhn k h8 s r ck a hs w
 rw[D0 h8];by_cases h9:k=9
 .rw[G0 h9];exact ZjL k h9 s r ck a hs w ht
 rw[D0 h9];exact Zi9 k C0 s r ck a w
namespace Cs
abbrev Rw:=Nat×Nat×Nat×Nat×Nat×Nat
def rw0:Rw:=(0,0,0,0,0,0)
def Lo(cs:List Int)(i:Nat):Rw:=if i<cs.length then(l5 cs i 0,l5 cs i 1,l5 cs i 2,Any cs i 0,Any cs i 1,Any cs i 2)else rw0
def Hx(cs:List Int)(i:Nat):List Rw:=(List.range (cs.length+2)).map λj=>if i<=j then Lo cs j else rw0
def aBS(cs:List Int)(i:Nat):(Hx cs i).length=cs.length+2:=by unfold Hx;rw[M0,R6]
def aA1{cs:List Int}{i j:Nat}(hj:j<cs.length+2):(Hx cs i)[j]? =some (if i<=j then Lo cs j else rw0):=by unfold Hx;rw[B3,EA hj];rfl
def rowsTo_end(cs:List Int):Hx cs cs.length=List.replicate (cs.length+2) rw0:=by
 apply Y8;intro j;rcases H5 j (cs.length+2)with h|h;·rw[aA1 h,MI,G0 h];unfold Lo;split;(·rw[D0 C0]);·rfl
 .rw[Y6 qO,Y6 (by rw[M2];exact h)]
def rowsTo_step{cs:List Int}{i:Nat}(hi:i<cs.length):Hx cs i=(Hx cs (i+1)).set i (Lo cs i):=by
 apply Y8;intro j;rcases H5 j (cs.length+2)with h|h;·rw[aA1 h,OC];by_cases e:i=j;(·subst e;rw[G0 rfl,G0 (J0 _),G0 qO]);·rw[D0 e,aA1 h];by_cases h2:i<=j;(·exact V8);·rw[D0 h2,D0 C0]
 .rw[Y6 qO,Y6 (by rw[P6,aBS];exact h)]
def behind{cs:List Int}{i:Nat}(hi:i<cs.length):∃r:Rw,(Hx cs (i+1))[i+1]? =some r/\r.2.2.2.1=(least (cs.drop (i+1))).1/\r.2.2.2.2.1=(least (cs.drop (i+1))).2.1/\r.2.2.2.2.2=(least (cs.drop (i+1))).2.2:=by
 refine⟨_,aA1 C0,?_⟩;rw[G0 (J0 _)];unfold Lo;by_cases h:i+1<cs.length;·rw[G0 h];exact⟨rfl,rfl,rfl⟩
 .rw[D0 h,O5 C0];exact⟨rfl,rfl,rfl⟩
def behind2{cs:List Int}{i:Nat}(hi:i<cs.length):∃r:Rw,(Hx cs (i+1))[i+2]? =some r/\(i+1<cs.length->r.2.2.2.2.2=(least (cs.drop (i+2))).2.2)/\r.2.2.2.2.2<=3*cs.length:=by
 refine⟨_,aA1 C0,?_⟩;rw[G0 C0];unfold Lo;have hl:=least_le (cs.drop (i+2));rw[X1]at hl;by_cases h:i+2<cs.length;·rw[G0 h];exact⟨λ_=>rfl,by show(least (cs.drop (i+2))).2.2<=_;omega⟩
 .rw[D0 h,O5 C0];exact⟨λ_=>rfl,R0 _⟩
def aHi{cs:List Int}{i s p:Nat}(hs:s<=2)(hp:i+1<cs.length->p=(least (cs.drop (i+2))).2.2):usedN cs i s (least (cs.drop (i+1))).1 (least (cs.drop (i+1))).2.1 (least (cs.drop (i+1))).2.2 p=l5 cs i s:=by
 unfold usedN l5;by_cases h0:s=0;·rw[G0 h0,G0 h0]
 rw[D0 h0,D0 h0];by_cases h1:s=1;·rw[G0 h1,G0 h1]
 rw[D0 h1,D0 h1];by_cases h2:i+1<cs.length;·rw[G0 h2,hp h2]
 .have:IM cs i=none:=(by unfold IM;rw[D0 h2]);rw[this];unfold Fy;split<;>rfl
def pU(cs:List Int)(i s:Nat):Rw:=(if 0<s then l5 cs i 0 else 0,if 1<s then l5 cs i 1 else 0,if 2<s then l5 cs i 2 else 0,0,0,0)
def pA(cs:List Int)(i s x:Nat):Rw:=(l5 cs i 0,l5 cs i 1,l5 cs i 2,if 0<s then Any cs i 0 else if s=0 then x else 0,if 1<s then Any cs i 1 else if s=1 then x else 0,if 2<s then Any cs i 2 else if s=2 then x else 0)
def minTo(cs:List Int)(i s:Nat):Nat->Nat
 |0=>l5 cs i s
 |t+1=>min (minTo cs i s t) (1+l5 cs i t)
def minTo_three{cs:List Int}{i s:Nat}(hi:i<cs.length)(hs:s<=2):minTo cs i s 3=Any cs i s:=by
 obtain⟨a1,a2,a3⟩:=any_eq hi;have:s=0\/s=1\/s=2:=by omega
 unfold minTo minTo minTo minTo;rcases this with rfl|rfl|rfl<;>omega
end Cs
def rwC(r:Cs.Rw):List Value:=[.int .i64 (r.1:Int),.int .i64 (r.2.1:Int),.int .i64 (r.2.2.1:Int),.int .i64 (r.2.2.2.1:Int),.int .i64 (r.2.2.2.2.1:Int),.int .i64 (r.2.2.2.2.2:Int)]
def iF(r:Cs.Rw):(rwC r).length=6:=rfl
abbrev ROwn:=KOwn (α:=Cs.Rw) 233 6 rwC
def ZiL:(prog.info? 233).map (λi=>(i.zero,i.size,i.bytes))=some (some (.agg #[.int .i64 0,.int .i64 0,.int .i64 0,.int .i64 0,.int .i64 0,.int .i64 0]),6,48):=D1
def Zj5(n:Nat):ZB rwC (List.replicate n Cs.rw0)=List.replicate (n*6) (.int .i64 0):=by
 induction n with
 |zero=>rfl
 |succ n ih=>rw[G5];show rwC Cs.rw0++ZB rwC (List.replicate n Cs.rw0)=_;rw[ih];show List.replicate 6 (Value.int .i64 0)++_=_;rw[List.replicate_append_replicate];congr 1;omega
def Zkf(w:World)(n:Nat)(B:Nat)(hn:n<=1000000)(hB:B<=w.heap.size):∃w',(Instr.makeSlice 229 (.int .i64 (n:Int)) (.int .i64 (n:Int))).run prog w=.ok (.slice (some ⟨w.heap.size,0,none⟩) n n) w'/\ROwn w' B (.slice (some ⟨w.heap.size,0,none⟩) n n) (List.replicate n Cs.rw0)/\Ext w w':=by
 obtain⟨i0,hi,An,p8,x9⟩:=C5 ZiL;obtain⟨w',h1,h2,h3⟩:=PM (P:=prog) w B 229 233 i0 (.agg #[.int .i64 0,.int .i64 0,.int .i64 0,.int .i64 0,.int .i64 0,.int .i64 0]) 6 underlying229 hi An p8 .i64 .i64 n TM TN hB;refine⟨w',h1,?_,(Ext.refl w).l8 h3 (λk hk=>by cases hk)⟩;unfold ROwn KOwn;rw[M2,Zj5];have e:(madeCells (Value.agg #[.int .i64 0,.int .i64 0,.int .i64 0,.int .i64 0,.int .i64 0,.int .i64 0]).cells (n*6)).toList=List.replicate (n*6) (.int .i64 0):=by apply Y8;intro j;rcases H5 j (n*6)with h|h;(·rw[MI,G0 h];have hs:j<(madeCells (Value.agg #[.int .i64 0,.int .i64 0,.int .i64 0,.int .i64 0,.int .i64 0,.int .i64 0]).cells (n*6)).size:=(by simp[madeCells];exact h);rw[LQ,LS hs];congr 1;simp only[madeCells,Value.cells,Array.getElem_ofFn];have h6:j%6<6:=WZ _ C0;have:j%6=0\/j%6=1\/j%6=2\/j%6=3\/j%6=4\/j%6=5:=C0;rcases this with h|h|h|h|h|h<;>simp[h]);·rw[Y6 (by simp[madeCells];exact h),Y6 (by rw[M2];exact h)]
 rw[<-e];exact h2
def ROwn.at_{w:World}{B g n c:Nat}{xs:List Cs.Rw}(h:ROwn w B (.slice (some ⟨g,0,none⟩) n c) xs){i:Nat}{x:Cs.Rw}(hi:xs[i]? =some x):g<w.heap.size/\∀j,j<6->w.cell? ⟨g,i*6+j,none⟩=(rwC x)[j]?/\w.frozen? ⟨g,i*6+j,none⟩=false:=by
 obtain⟨b,off,ha,hb,hc⟩:=(h.sl iF).at_ hi;injection ha with ha;injection ha with Bu IB;subst Bu IB;refine⟨hb,λj hj=>⟨by have:=hc j hj;rw[Nat.zero_add]at this;exact this,?_⟩⟩;rcases h.2 with⟨h1,_⟩|⟨g',cap,cur,h1,_,hg,_⟩;·cases h1
 .injection h1 with h2;injection h2 with h2;injection h2 with h2;subst h2;exact ZX hg
def Zjm{α:Type}{xs:List α}{i:Nat}{x:α}(h:xs[i]? =some x):xs.set i x=xs:=by
 apply Y8;intro j;rw[OC];by_cases e:i=j;·subst e;rw[G0 rfl,G0 (N1.1 h).1,h]
 .rw[D0 e]
def VQ{α:Type}{xs:List α}{i:Nat}{x y:α}(h:xs[i]? =some x):(xs.set i y)[i]? =some y:=by rw[OC,G0 rfl,G0 (N1.1 h).1]
def iG{α:Type}{xs:List α}{i j:Nat}{y:α}(h:i≠j):(xs.set i y)[j]? =xs[j]? :=by rw[OC,D0 h]
def Zoh{cs:List Int}{i s:Nat}(hi:i<cs.length)(hs:s<=2):Cs.pA cs i s (Cs.minTo cs i s 3)=Cs.pA cs i (s+1) 0:=by
 rw[Cs.minTo_three hi hs];have:s=0\/s=1\/s=2:=by omega
 rcases this with rfl|rfl|rfl<;>rfl
def Zog{cs:List Int}{i:Nat}(hi:i<cs.length):Cs.pA cs i 3 0=Cs.Lo cs i:=by unfold Cs.Lo;rw[G0 hi];rfl
def ROwn.put{w:World}{B g n cp:Nat}{xs:List Cs.Rw}{i c:Nat}{x y:Cs.Rw}(h:ROwn w B (.slice (some ⟨g,0,none⟩) n cp) (xs.set i x))(hi:i<xs.length)(hc:c<6)(u:Value)(hy:rwC y=(rwC x).set c u):ROwn (w.setCell ⟨g,i*6+c,none⟩ u) B (.slice (some ⟨g,0,none⟩) n cp) (xs.set i y):=by have h1:=(KOwn.stored (T:=233) iF h (i:=i) (c:=c) (x:=x) (y:=y) (by rw[OC,G0 rfl,G0 hi]) hc u hy).1;rw[List.set_set]at h1;exact h1
def ZlG(v:Value)(cs:List Int)(w:World)(hv:Sl w v (cs.map encI))(hl:cs.length<=4096)(x7:∀c∈cs,Cs.Ab c):
 Calls prog 202 #[v] w λe w'=>∃u,e=.returned u/\ROwn w' w.heap.size u (Cs.Hx cs 0)/\Ext w w':=by
 have HUS:=B0 (λ(W:World)(hx:Ext w W)(i s:Nat)(hi:i<cs.length)(hs:s<=2) x0 x1 x2 y0 y1 y2 n2 n3 n4 p2 p3 p4 h2 h3 h4 h5=>ZlH v cs i s W (hv.ext hx) hl x7 hi hs x0 x1 x2 y0 y1 y2 n2 n3 n4 p2 p3 p4 h2 h3 h4 h5);obtain⟨a,c,rfl⟩:=hv.form;rw[M0]at HUS⊢;obtain⟨n,hn⟩:∃n,n=cs.length:=⟨_,rfl⟩;rw[<-hn]at hl HUS⊢;have HN:=B0 hn;obtain⟨N2,Md⟩:∃N2,N2=n+2:=⟨_,rfl⟩;have hNI:(n:Int)+2=(N2:Int):=by omega
 obtain⟨wm,IT,Ef,Bg⟩:=Zkf w N2 w.heap.size C0 (J0 _);have Ib:Hid (ROwn wm w.heap.size (.slice (some ⟨w.heap.size,0,none⟩) N2 N2) (Cs.Hx cs n)):=B0 (by rw[HN.out,Cs.rowsTo_end];rw[Md,HN.out]at Ef⊢;exact Ef);have Gw:=B0 Bg;have Db:=B0 Md;obtain⟨g,hg⟩:∃g,g=w.heap.size:=⟨_,rfl⟩;have HG:=B0 (show w.heap.size<=g by omega);rw[<-hg]at IT;have aDK:Hid (ROwn wm w.heap.size (.slice (some ⟨g,0,none⟩) N2 N2) (Cs.Hx cs n)):=B0 (by rw[hg];exact Ib.out);clear hv x7 hn Ef Bg Md hg Ib;go_enter func202,ntmps202;go_wp2_with fail;go_loopw [4] (λt wr=>∃(j:Nat)(q:Int),j<=n/\q=(j:Int)-1/\t=.int .i64 q/\Hid (ROwn wr w.heap.size (.slice (some ⟨g,0,none⟩) N2 N2) (Cs.Hx cs j))/\Hid (Ext w wr)) (λt _=>(intOf t+1).toNat)
 case atStart=>exact⟨n,(n:Int)-1,J0 _,rfl,rfl,aDK,Gw⟩
 case round=>
 clear aDK Gw IT;rename World=>wa
 obtain⟨j,q,hj,hq,rfl,HO,HX⟩:=hrel;cases j with
 |zero=>obtain rfl:q= -1:=C0;clear hq hj;go_wp2_with fail;go_ret;exact⟨_,rfl,HO.out,HX.out⟩
 |succ i=>
  obtain rfl:q=(i:Int):=by omega
  have Bd:i<n:=by omega
  have aIZ:(i:Int)<(N2:Int):=by have:=Db.out;omega
  have aAT:(i:Int)+1<(N2:Int):=by have:=Db.out;omega
  have aDs:(i:Int)+2<(N2:Int):=by have:=Db.out;omega
  have HIC:Hid (i<cs.length):=B0 (by rw[<-HN.out];exact Bd)
  have Gb:Hid (i<(Cs.Hx cs (i+1)).length):=B0 (by rw[Cs.aBS];have:=HIC.out;omega)
  obtain⟨⟨a0,a1,a2,n2,n3,n4⟩,IZ,g2,g3,g4⟩:=Cs.behind HIC.out
  obtain⟨⟨b0,b1,b2,p2,p3,p4⟩,Aa,St,hp5⟩:=Cs.behind2 HIC.out
  dsimp only at g2 g3 g4 St hp5
  have p6:=B0 IZ
  have Aj:=B0 Aa
  have Yt:=Cs.least_le (cs.drop (i+1))
  have j8:(cs.drop (i+1)).length<=4096:=by rw[X1,<-HN.out];omega
  have Av:n2<=1000000:=by omega
  have Wd:n3<=1000000:=by omega
  have Ha:n4<=1000000:=by omega
  have hp6:p4<=1000000:=by rw[<-HN.out]at hp5;omega
  have HUI:Hid (∀s,s<=2->Cs.usedN cs i s n2 n3 n4 p4=Cs.l5 cs i s):=B0 (λs hs=>by rw[g2,g3,g4];exact Cs.aHi hs St)
  have Lw:Hid (∀s,s<=2->Cs.l5 cs i s<=1099511627776):=B0 (λs hs=>by rw[<-HUI.out s hs];unfold Cs.usedN Cs.Br Cs.Fy Cs.Pa;(repeat' split)<;>omega)
  have HUC:Hid (∀(W:World)(hx:Ext w W)(s:Nat)(hs:s<=2),Calls prog 248 #[.slice a n c,.int .i64 (i:Int),.int .i64 (s:Int),.agg #[.int .i64 (a0:Int),.int .i64 (a1:Int),.int .i64 (a2:Int),.int .i64 (n2:Int),.int .i64 (n3:Int),.int .i64 (n4:Int)],.agg #[.int .i64 (b0:Int),.int .i64 (b1:Int),.int .i64 (b2:Int),.int .i64 (p2:Int),.int .i64 (p3:Int),.int .i64 (p4:Int)]] W λe w'=>e=.returned (.int .i64 (Cs.l5 cs i s:Nat))/\Ext W w'):=B0 (λW hx s hs=>by have h:=HUS.out W hx i s Bd hs a0 a1 a2 b0 b1 b2 n2 n3 n4 p2 p3 p4 Av Wd Ha hp6;rw[HUI.out s hs]at h;exact h)
  clear g2 g3 g4
  have Tt:Hid (ROwn wa w.heap.size (.slice (some ⟨g,0,none⟩) N2 N2) ((Cs.Hx cs (i+1)).set i (Cs.pU cs i 0))):=B0 (by rw[Zjm];(·exact HO.out);·rw[Cs.aA1 (by have:=HIC.out;omega),D0 C0];rfl)
  clear IZ Aa St hp5 Yt j8 hq hj HO Av Wd Ha hp6
  obtain⟨i1,Gh⟩:∃i1,i1=i+1:=⟨_,rfl⟩
  obtain⟨i2,So⟩:∃i2,i2=i+2:=⟨_,rfl⟩
  have hI1:IntKind.i64.wrap ((i:Int)+1)=(i1:Int):=M6
  have hI2:IntKind.i64.wrap ((i:Int)+2)=(i2:Int):=M6
  replace aAT:(i1:Int)<(N2:Int):=by omega
  replace aDs:(i2:Int)<(N2:Int):=by omega
  rw[<-Gh]at p6 Aj Gb Tt
  have Tq:=B0 Gh
  have HI2:=B0 So
  rw[<-So]at Aj
  obtain⟨RT,hRT⟩:∃RT,RT=Cs.Hx cs i1:=⟨_,rfl⟩
  have HRT:=B0 hRT
  rw[<-hRT]at p6 Aj Gb Tt
  clear Gh So hRT
  go_wp2_with fail
  go_loopw [5] (λt wr=>∃(s:Nat)(q:Int),s<=3/\q=(s:Int)/\t=.int .i64 q/\Hid (ROwn wr w.heap.size (.slice (some ⟨g,0,none⟩) N2 N2) (RT.set i (Cs.pU cs i s)))/\Hid (Ext w wr)) (λt _=>3-(intOf t).toNat)
  case atStart=>exact⟨0,0,R0 _,rfl,rfl,Tt,HX⟩
  case round=>
  clear Tt HX
  rename World=>wb
  obtain⟨s,q,hs,hq,rfl,HO,HX⟩:=hrel
  by_cases hlt:s<3
  .obtain⟨Vt,k1⟩:=ROwn.at_ HO.out (i:=i1) (iG (by have:=Tq.out;omega) |>.trans p6.out);obtain⟨-,k2⟩:=ROwn.at_ HO.out (i:=i2) (iG (by have:=HI2.out;omega) |>.trans Aj.out);have e0:=(k1 0 C0).1;have f0:=(k2 0 C0).1;have e1:=(k1 1 C0).1;have f1:=(k2 1 C0).1;have e2:=(k1 2 C0).1;have f2:=(k2 2 C0).1;have e3:=(k1 3 C0).1;have f3:=(k2 3 C0).1;have e4:=(k1 4 C0).1;have f4:=(k2 4 C0).1;have e5:=(k1 5 C0).1;have f5:=(k2 5 C0).1;dsimp only[rwC,List.getElem?_cons_zero,List.getElem?_cons_succ,Nat.add_zero]at e0 e1 e2 e3 e4 e5 f0 f1 f2 f3 f4 f5;clear k1 k2;have h3:s=0\/s=1\/s=2:=C0;rcases h3 with rfl|rfl|rfl;(·obtain rfl:q=0:=hq;have HC:=B0 (λ(W:World)(hx:Ext w W)=>HUC.out W hx 0 C0);rw[show((0:Nat):Int)=0 from rfl]at HC;have IF:Hid (∀(w5:World),Ext wb w5->(∃x:Int,w5.cell? ⟨g,i*6,none⟩=some (.int .i64 x))/\w5.frozen? ⟨g,i*6,none⟩=false):=B0 (λw5 j5=>by have h:=(ROwn.at_ (HO.out.ext j5) (VQ (y:=Cs.pU cs i 0) (P0 Gb.out))).2 0 C0;exact⟨⟨_,h.1⟩,h.2⟩);have Em:Hid (∀(w5:World),Ext wb w5->ROwn (w5.setCell ⟨g,i*6,none⟩ (.int .i64 (Cs.l5 cs i 0:Nat))) w.heap.size (.slice (some ⟨g,0,none⟩) N2 N2) (RT.set i (Cs.pU cs i 1))):=B0 (λw5 j5=>ROwn.put (c:=0) (HO.out.ext j5) Gb.out C0 _ rfl);generalize Cs.l5 cs i 0=U at*;go_upto_region 8 with fail;go_region_with (go_at_call 248;refine(HC.out _ qP).mono ?_;rintro e w5 ⟨rfl,j5⟩;have o9:Ext wb w5:=qQ;obtain⟨⟨x5,c5⟩,q5⟩:=IF.out w5 o9);all_goals have s6:=B0 (Em.out _ o9);have p7:=B0 ((HX.out.trans o9).setCell (p:=⟨g,i*6,none⟩) HG.out (.int .i64 (U:Int)));clear j5 o9 c5 q5;go_wp2_with fail;go_roundw;(case rel=>exact⟨1,1,by omega,rfl,by go_num,s6,p7⟩);case measure=>exact Qr);(·obtain rfl:q=1:=hq;have HC:=B0 (λ(W:World)(hx:Ext w W)=>HUC.out W hx 1 C0);rw[show((1:Nat):Int)=1 from rfl]at HC;have IF:Hid (∀(w5:World),Ext wb w5->(∃x:Int,w5.cell? ⟨g,i*6+1,none⟩=some (.int .i64 x))/\w5.frozen? ⟨g,i*6+1,none⟩=false):=B0 (λw5 j5=>by have h:=(ROwn.at_ (HO.out.ext j5) (VQ (y:=Cs.pU cs i 1) (P0 Gb.out))).2 1 C0;exact⟨⟨_,h.1⟩,h.2⟩);have Em:Hid (∀(w5:World),Ext wb w5->ROwn (w5.setCell ⟨g,i*6+1,none⟩ (.int .i64 (Cs.l5 cs i 1:Nat))) w.heap.size (.slice (some ⟨g,0,none⟩) N2 N2) (RT.set i (Cs.pU cs i 2))):=B0 (λw5 j5=>ROwn.put (c:=1) (HO.out.ext j5) Gb.out C0 _ rfl);generalize Cs.l5 cs i 1=U at*;go_upto_region 8 with fail;go_region_with (go_at_call 248;refine(HC.out _ qP).mono ?_;rintro e w5 ⟨rfl,j5⟩;have o9:Ext wb w5:=qQ;obtain⟨⟨x5,c5⟩,q5⟩:=IF.out w5 o9);all_goals have s6:=B0 (Em.out _ o9);have p7:=B0 ((HX.out.trans o9).setCell (p:=⟨g,i*6+1,none⟩) HG.out (.int .i64 (U:Int)));clear j5 o9 c5 q5;go_wp2_with fail;go_roundw;(case rel=>exact⟨2,2,by omega,rfl,by go_num,s6,p7⟩);case measure=>exact Qr);·obtain rfl:q=2:=hq;have HC:=B0 (λ(W:World)(hx:Ext w W)=>HUC.out W hx 2 C0);rw[show((2:Nat):Int)=2 from rfl]at HC;have IF:Hid (∀(w5:World),Ext wb w5->(∃x:Int,w5.cell? ⟨g,i*6+2,none⟩=some (.int .i64 x))/\w5.frozen? ⟨g,i*6+2,none⟩=false):=B0 (λw5 j5=>by have h:=(ROwn.at_ (HO.out.ext j5) (VQ (y:=Cs.pU cs i 2) (P0 Gb.out))).2 2 C0;exact⟨⟨_,h.1⟩,h.2⟩);have Em:Hid (∀(w5:World),Ext wb w5->ROwn (w5.setCell ⟨g,i*6+2,none⟩ (.int .i64 (Cs.l5 cs i 2:Nat))) w.heap.size (.slice (some ⟨g,0,none⟩) N2 N2) (RT.set i (Cs.pU cs i 3))):=B0 (λw5 j5=>ROwn.put (c:=2) (HO.out.ext j5) Gb.out C0 _ rfl);generalize Cs.l5 cs i 2=U at*;go_upto_region 8 with fail;go_region_with (go_at_call 248;refine(HC.out _ qP).mono ?_;rintro e w5 ⟨rfl,j5⟩;have o9:Ext wb w5:=qQ;obtain⟨⟨x5,c5⟩,q5⟩:=IF.out w5 o9);all_goals have s6:=B0 (Em.out _ o9);have p7:=B0 ((HX.out.trans o9).setCell (p:=⟨g,i*6+2,none⟩) HG.out (.int .i64 (U:Int)));clear j5 o9 c5 q5;go_wp2_with fail;go_roundw;(case rel=>exact⟨3,3,by omega,rfl,by go_num,s6,p7⟩);case measure=>exact Qr
  obtain rfl:s=3:=by omega
  obtain rfl:q=3:=hq
  have Tt:Hid (ROwn wb w.heap.size (.slice (some ⟨g,0,none⟩) N2 N2) (RT.set i (Cs.pA cs i 0 0))):=HO
  have Cj:=HX
  clear hs hlt HO HX HUC HUI HUS hI1 hI2 aAT aDs p6 Aj
  go_wp2_with fail
  go_loopw [6] (λt wr=>∃(s:Nat)(q:Int),s<=3/\q=(s:Int)/\t=.int .i64 q/\Hid (ROwn wr w.heap.size (.slice (some ⟨g,0,none⟩) N2 N2) (RT.set i (Cs.pA cs i s 0)))/\Hid (Ext w wr)) (λt _=>3-(intOf t).toNat)
  case atStart=>exact⟨0,0,R0 _,rfl,rfl,Tt,Cj⟩
  case round=>
  clear Tt Cj
  rename World=>wc
  obtain⟨s,q,hs,hq,rfl,HO,HX⟩:=hrel
  by_cases hlt:s<3
  .obtain⟨Vt,k1⟩:=ROwn.at_ HO.out (i:=i) (VQ (P0 Gb.out));have h3:s=0\/s=1\/s=2:=C0;rcases h3 with rfl|rfl|rfl
   .obtain rfl:q=0:=hq
    have e1:=(k1 0 C0).1
    have e2:=(k1 3 C0).1
    have e3:=(k1 3 C0).2
    have Em:Hid (ROwn (wc.setCell ⟨g,i*6+3,none⟩ (.int .i64 (Cs.l5 cs i 0:Nat))) w.heap.size (.slice (some ⟨g,0,none⟩) N2 N2) (RT.set i (Cs.pA cs i 0 (Cs.minTo cs i 0 0)))):=B0 (ROwn.put (c:=3) HO.out Gb.out C0 _ rfl)
    have Kp:=Lw.out 0 C0
    dsimp only[rwC,Cs.pA,List.getElem?_cons_zero,List.getElem?_cons_succ,Nat.add_zero]at e1 e2 e3
    simp only[A6,E4,M3,U4,reduceIte]at e2
    generalize Ye:Cs.l5 cs i 0=US at*
    have aDN:=B0 Ye
    clear k1 Ye
    go_upto_region 12 with fail
    go_region
    have Na:Hid (ROwn (wc.setCell ⟨g,i*6+3,none⟩ (.int .i64 (US:Int))).drew w.heap.size (.slice (some ⟨g,0,none⟩) N2 N2) (RT.set i (Cs.pA cs i 0 (Cs.minTo cs i 0 0)))):=B0 (Em.out.ext (Ext.refl _).drew)
    have Ba:Hid (Ext w (wc.setCell ⟨g,i*6+3,none⟩ (.int .i64 (US:Int))).drew):=B0 ((HX.out.setCell (p:=⟨g,i*6+3,none⟩) HG.out _).drew)
    clear e1 e2 e3 Em Kp Vt HO HX
    go_wp2_with fail
    go_loopw [7] (λt wr=>∃(u:Nat)(q:Int),u<=3/\q=(u:Int)/\t=.int .i64 q/\Hid (ROwn wr w.heap.size (.slice (some ⟨g,0,none⟩) N2 N2) (RT.set i (Cs.pA cs i 0 (Cs.minTo cs i 0 u))))/\Hid (Ext w wr)) (λt _=>3-(intOf t).toNat)
    case atStart=>exact qR
    case round=>
    clear Na Ba
    rename World=>wd
    obtain⟨u,q,hu,hq,rfl,HO,HX⟩:=hrel
    by_cases Yn:u<3
    .obtain⟨Kk,k1⟩:=ROwn.at_ HO.out (i:=i) (VQ (P0 Gb.out));have Po:Cs.minTo cs i 0 u<=1099511627776:=by
      have h:∀u,Cs.minTo cs i 0 u<=Cs.l5 cs i 0:=λu=>by
       induction u with
       |zero=>exact J0 _
       |succ u ih=>exact F3 (qS _ _) ih
      exact F3 (h u) (Lw.out 0 C0)
     have h3:u=0\/u=1\/u=2:=C0;rcases h3 with rfl|rfl|rfl;(·obtain rfl:q=0:=hq;have e1:=(k1 3 C0).1;have e2:=(k1 0 C0).1;have e3:=(k1 3 C0).2;have Em:Hid (ROwn (wd.setCell ⟨g,i*6+3,none⟩ (.int .i64 (Cs.minTo cs i 0 1:Nat))) w.heap.size (.slice (some ⟨g,0,none⟩) N2 N2) (RT.set i (Cs.pA cs i 0 (Cs.minTo cs i 0 1)))):=B0 (ROwn.put (c:=3) HO.out Gb.out C0 _ rfl);have Kp:=Lw.out 0 C0;have On:Hid (Cs.minTo cs i 0 1=min (Cs.minTo cs i 0 0) (1+Cs.l5 cs i 0)):=B0 rfl;dsimp only[rwC,Cs.pA,List.getElem?_cons_zero,List.getElem?_cons_succ,Nat.add_zero]at e1 e2 e3;simp only[A6,E4,M3,U4,reduceIte]at e1;generalize Cs.l5 cs i 0=UU at*;generalize Cs.minTo cs i 0 0=MM at*;clear k1;go_upto_region 16 with fail;go_region;have HV:Hid (((Cs.minTo cs i 0 1:Nat):Int)=min (MM:Int) (1+(UU:Int))):=B0 YE;have Lu:Hid (ROwn (wd.setCell ⟨g,i*6+3,none⟩ (.int .i64 (min (MM:Int) (1+(UU:Int))))).drew w.heap.size (.slice (some ⟨g,0,none⟩) N2 N2) (RT.set i (Cs.pA cs i 0 (Cs.minTo cs i 0 1)))):=B0 YF;have Hi:Hid (Ext w (wd.setCell ⟨g,i*6+3,none⟩ (.int .i64 (min (MM:Int) (1+(UU:Int))))).drew):=B0 ((HX.out.setCell (p:=⟨g,i*6+3,none⟩) HG.out _).drew);exact qT);(·obtain rfl:q=1:=hq;have e1:=(k1 3 C0).1;have e2:=(k1 1 C0).1;have e3:=(k1 3 C0).2;have Em:Hid (ROwn (wd.setCell ⟨g,i*6+3,none⟩ (.int .i64 (Cs.minTo cs i 0 2:Nat))) w.heap.size (.slice (some ⟨g,0,none⟩) N2 N2) (RT.set i (Cs.pA cs i 0 (Cs.minTo cs i 0 2)))):=B0 (ROwn.put (c:=3) HO.out Gb.out C0 _ rfl);have Kp:=Lw.out 1 C0;have On:Hid (Cs.minTo cs i 0 2=min (Cs.minTo cs i 0 1) (1+Cs.l5 cs i 1)):=B0 rfl;dsimp only[rwC,Cs.pA,List.getElem?_cons_zero,List.getElem?_cons_succ,Nat.add_zero]at e1 e2 e3;simp only[A6,E4,M3,U4,reduceIte]at e1;generalize Cs.l5 cs i 1=UU at*;generalize Cs.minTo cs i 0 1=MM at*;clear k1;go_upto_region 16 with fail;go_region;have HV:Hid (((Cs.minTo cs i 0 2:Nat):Int)=min (MM:Int) (1+(UU:Int))):=B0 YE;have Lu:Hid (ROwn (wd.setCell ⟨g,i*6+3,none⟩ (.int .i64 (min (MM:Int) (1+(UU:Int))))).drew w.heap.size (.slice (some ⟨g,0,none⟩) N2 N2) (RT.set i (Cs.pA cs i 0 (Cs.minTo cs i 0 2)))):=B0 YF;have Hi:Hid (Ext w (wd.setCell ⟨g,i*6+3,none⟩ (.int .i64 (min (MM:Int) (1+(UU:Int))))).drew):=B0 ((HX.out.setCell (p:=⟨g,i*6+3,none⟩) HG.out _).drew);exact qU);·obtain rfl:q=2:=hq;have e1:=(k1 3 C0).1;have e2:=(k1 2 C0).1;have e3:=(k1 3 C0).2;have Em:Hid (ROwn (wd.setCell ⟨g,i*6+3,none⟩ (.int .i64 (Cs.minTo cs i 0 3:Nat))) w.heap.size (.slice (some ⟨g,0,none⟩) N2 N2) (RT.set i (Cs.pA cs i 0 (Cs.minTo cs i 0 3)))):=B0 (ROwn.put (c:=3) HO.out Gb.out C0 _ rfl);have Kp:=Lw.out 2 C0;have On:Hid (Cs.minTo cs i 0 3=min (Cs.minTo cs i 0 2) (1+Cs.l5 cs i 2)):=B0 rfl;dsimp only[rwC,Cs.pA,List.getElem?_cons_zero,List.getElem?_cons_succ,Nat.add_zero]at e1 e2 e3;simp only[A6,E4,M3,U4,reduceIte]at e1;generalize Cs.l5 cs i 2=UU at*;generalize Cs.minTo cs i 0 2=MM at*;clear k1;go_upto_region 16 with fail;go_region;have HV:Hid (((Cs.minTo cs i 0 3:Nat):Int)=min (MM:Int) (1+(UU:Int))):=B0 YE;have Lu:Hid (ROwn (wd.setCell ⟨g,i*6+3,none⟩ (.int .i64 (min (MM:Int) (1+(UU:Int))))).drew w.heap.size (.slice (some ⟨g,0,none⟩) N2 N2) (RT.set i (Cs.pA cs i 0 (Cs.minTo cs i 0 3)))):=B0 YF;have Hi:Hid (Ext w (wd.setCell ⟨g,i*6+3,none⟩ (.int .i64 (min (MM:Int) (1+(UU:Int))))).drew):=B0 ((HX.out.setCell (p:=⟨g,i*6+3,none⟩) HG.out _).drew);exact qV
    obtain rfl:u=3:=by omega
    obtain rfl:q=3:=hq
    have Ed:Hid (ROwn wd w.heap.size (.slice (some ⟨g,0,none⟩) N2 N2) (RT.set i (Cs.pA cs i 1 0))):=B0 qW
    clear hu Yn HO
    go_wp2_with fail
    go_roundw
    case rel=>exact⟨1,1,by omega,rfl,by go_num,Ed,HX⟩
    case measure=>exact Qr
   .obtain rfl:q=1:=hq
    have e1:=(k1 1 C0).1
    have e2:=(k1 4 C0).1
    have e3:=(k1 4 C0).2
    have Em:Hid (ROwn (wc.setCell ⟨g,i*6+4,none⟩ (.int .i64 (Cs.l5 cs i 1:Nat))) w.heap.size (.slice (some ⟨g,0,none⟩) N2 N2) (RT.set i (Cs.pA cs i 1 (Cs.minTo cs i 1 0)))):=B0 (ROwn.put (c:=4) HO.out Gb.out C0 _ rfl)
    have Kp:=Lw.out 1 C0
    dsimp only[rwC,Cs.pA,List.getElem?_cons_zero,List.getElem?_cons_succ,Nat.add_zero]at e1 e2 e3
    simp only[A6,E4,M3,U4,reduceIte]at e2
    generalize Ye:Cs.l5 cs i 1=US at*
    have aDN:=B0 Ye
    clear k1 Ye
    go_upto_region 12 with fail
    go_region
    have Na:Hid (ROwn (wc.setCell ⟨g,i*6+4,none⟩ (.int .i64 (US:Int))).drew w.heap.size (.slice (some ⟨g,0,none⟩) N2 N2) (RT.set i (Cs.pA cs i 1 (Cs.minTo cs i 1 0)))):=B0 (Em.out.ext (Ext.refl _).drew)
    have Ba:Hid (Ext w (wc.setCell ⟨g,i*6+4,none⟩ (.int .i64 (US:Int))).drew):=B0 ((HX.out.setCell (p:=⟨g,i*6+4,none⟩) HG.out _).drew)
    clear e1 e2 e3 Em Kp Vt HO HX
    go_wp2_with fail
    go_loopw [7] (λt wr=>∃(u:Nat)(q:Int),u<=3/\q=(u:Int)/\t=.int .i64 q/\Hid (ROwn wr w.heap.size (.slice (some ⟨g,0,none⟩) N2 N2) (RT.set i (Cs.pA cs i 1 (Cs.minTo cs i 1 u))))/\Hid (Ext w wr)) (λt _=>3-(intOf t).toNat)
    case atStart=>exact qR
    case round=>
    clear Na Ba
    rename World=>wd
    obtain⟨u,q,hu,hq,rfl,HO,HX⟩:=hrel
    by_cases Yn:u<3
    .obtain⟨Kk,k1⟩:=ROwn.at_ HO.out (i:=i) (VQ (P0 Gb.out));have Po:Cs.minTo cs i 1 u<=1099511627776:=by
      have h:∀u,Cs.minTo cs i 1 u<=Cs.l5 cs i 1:=λu=>by
       induction u with
       |zero=>exact J0 _
       |succ u ih=>exact F3 (qS _ _) ih
      exact F3 (h u) (Lw.out 1 C0)
     have h3:u=0\/u=1\/u=2:=C0;rcases h3 with rfl|rfl|rfl;(·obtain rfl:q=0:=hq;have e1:=(k1 4 C0).1;have e2:=(k1 0 C0).1;have e3:=(k1 4 C0).2;have Em:Hid (ROwn (wd.setCell ⟨g,i*6+4,none⟩ (.int .i64 (Cs.minTo cs i 1 1:Nat))) w.heap.size (.slice (some ⟨g,0,none⟩) N2 N2) (RT.set i (Cs.pA cs i 1 (Cs.minTo cs i 1 1)))):=B0 (ROwn.put (c:=4) HO.out Gb.out C0 _ rfl);have Kp:=Lw.out 0 C0;have On:Hid (Cs.minTo cs i 1 1=min (Cs.minTo cs i 1 0) (1+Cs.l5 cs i 0)):=B0 rfl;dsimp only[rwC,Cs.pA,List.getElem?_cons_zero,List.getElem?_cons_succ,Nat.add_zero]at e1 e2 e3;simp only[A6,E4,M3,U4,reduceIte]at e1;generalize Cs.l5 cs i 0=UU at*;generalize Cs.minTo cs i 1 0=MM at*;clear k1;go_upto_region 16 with fail;go_region;have HV:Hid (((Cs.minTo cs i 1 1:Nat):Int)=min (MM:Int) (1+(UU:Int))):=B0 YE;have Lu:Hid (ROwn (wd.setCell ⟨g,i*6+4,none⟩ (.int .i64 (min (MM:Int) (1+(UU:Int))))).drew w.heap.size (.slice (some ⟨g,0,none⟩) N2 N2) (RT.set i (Cs.pA cs i 1 (Cs.minTo cs i 1 1)))):=B0 YF;have Hi:Hid (Ext w (wd.setCell ⟨g,i*6+4,none⟩ (.int .i64 (min (MM:Int) (1+(UU:Int))))).drew):=B0 ((HX.out.setCell (p:=⟨g,i*6+4,none⟩) HG.out _).drew);exact qT);(·obtain rfl:q=1:=hq;have e1:=(k1 4 C0).1;have e2:=(k1 1 C0).1;have e3:=(k1 4 C0).2;have Em:Hid (ROwn (wd.setCell ⟨g,i*6+4,none⟩ (.int .i64 (Cs.minTo cs i 1 2:Nat))) w.heap.size (.slice (some ⟨g,0,none⟩) N2 N2) (RT.set i (Cs.pA cs i 1 (Cs.minTo cs i 1 2)))):=B0 (ROwn.put (c:=4) HO.out Gb.out C0 _ rfl);have Kp:=Lw.out 1 C0;have On:Hid (Cs.minTo cs i 1 2=min (Cs.minTo cs i 1 1) (1+Cs.l5 cs i 1)):=B0 rfl;dsimp only[rwC,Cs.pA,List.getElem?_cons_zero,List.getElem?_cons_succ,Nat.add_zero]at e1 e2 e3;simp only[A6,E4,M3,U4,reduceIte]at e1;generalize Cs.l5 cs i 1=UU at*;generalize Cs.minTo cs i 1 1=MM at*;clear k1;go_upto_region 16 with fail;go_region;have HV:Hid (((Cs.minTo cs i 1 2:Nat):Int)=min (MM:Int) (1+(UU:Int))):=B0 YE;have Lu:Hid (ROwn (wd.setCell ⟨g,i*6+4,none⟩ (.int .i64 (min (MM:Int) (1+(UU:Int))))).drew w.heap.size (.slice (some ⟨g,0,none⟩) N2 N2) (RT.set i (Cs.pA cs i 1 (Cs.minTo cs i 1 2)))):=B0 YF;have Hi:Hid (Ext w (wd.setCell ⟨g,i*6+4,none⟩ (.int .i64 (min (MM:Int) (1+(UU:Int))))).drew):=B0 ((HX.out.setCell (p:=⟨g,i*6+4,none⟩) HG.out _).drew);exact qU);·obtain rfl:q=2:=hq;have e1:=(k1 4 C0).1;have e2:=(k1 2 C0).1;have e3:=(k1 4 C0).2;have Em:Hid (ROwn (wd.setCell ⟨g,i*6+4,none⟩ (.int .i64 (Cs.minTo cs i 1 3:Nat))) w.heap.size (.slice (some ⟨g,0,none⟩) N2 N2) (RT.set i (Cs.pA cs i 1 (Cs.minTo cs i 1 3)))):=B0 (ROwn.put (c:=4) HO.out Gb.out C0 _ rfl);have Kp:=Lw.out 2 C0;have On:Hid (Cs.minTo cs i 1 3=min (Cs.minTo cs i 1 2) (1+Cs.l5 cs i 2)):=B0 rfl;dsimp only[rwC,Cs.pA,List.getElem?_cons_zero,List.getElem?_cons_succ,Nat.add_zero]at e1 e2 e3;simp only[A6,E4,M3,U4,reduceIte]at e1;generalize Cs.l5 cs i 2=UU at*;generalize Cs.minTo cs i 1 2=MM at*;clear k1;go_upto_region 16 with fail;go_region;have HV:Hid (((Cs.minTo cs i 1 3:Nat):Int)=min (MM:Int) (1+(UU:Int))):=B0 YE;have Lu:Hid (ROwn (wd.setCell ⟨g,i*6+4,none⟩ (.int .i64 (min (MM:Int) (1+(UU:Int))))).drew w.heap.size (.slice (some ⟨g,0,none⟩) N2 N2) (RT.set i (Cs.pA cs i 1 (Cs.minTo cs i 1 3)))):=B0 YF;have Hi:Hid (Ext w (wd.setCell ⟨g,i*6+4,none⟩ (.int .i64 (min (MM:Int) (1+(UU:Int))))).drew):=B0 ((HX.out.setCell (p:=⟨g,i*6+4,none⟩) HG.out _).drew);exact qV
    obtain rfl:u=3:=by omega
    obtain rfl:q=3:=hq
    have Ed:Hid (ROwn wd w.heap.size (.slice (some ⟨g,0,none⟩) N2 N2) (RT.set i (Cs.pA cs i 2 0))):=B0 qW
    clear hu Yn HO
    go_wp2_with fail
    go_roundw
    case rel=>exact⟨2,2,by omega,rfl,by go_num,Ed,HX⟩
    case measure=>exact Qr
   .obtain rfl:q=2:=hq
    have e1:=(k1 2 C0).1
    have e2:=(k1 5 C0).1
    have e3:=(k1 5 C0).2
    have Em:Hid (ROwn (wc.setCell ⟨g,i*6+5,none⟩ (.int .i64 (Cs.l5 cs i 2:Nat))) w.heap.size (.slice (some ⟨g,0,none⟩) N2 N2) (RT.set i (Cs.pA cs i 2 (Cs.minTo cs i 2 0)))):=B0 (ROwn.put (c:=5) HO.out Gb.out C0 _ rfl)
    have Kp:=Lw.out 2 C0
    dsimp only[rwC,Cs.pA,List.getElem?_cons_zero,List.getElem?_cons_succ,Nat.add_zero]at e1 e2 e3
    simp only[A6,E4,M3,U4,reduceIte]at e2
    generalize Ye:Cs.l5 cs i 2=US at*
    have aDN:=B0 Ye
    clear k1 Ye
    go_upto_region 12 with fail
    go_region
    have Na:Hid (ROwn (wc.setCell ⟨g,i*6+5,none⟩ (.int .i64 (US:Int))).drew w.heap.size (.slice (some ⟨g,0,none⟩) N2 N2) (RT.set i (Cs.pA cs i 2 (Cs.minTo cs i 2 0)))):=B0 (Em.out.ext (Ext.refl _).drew)
    have Ba:Hid (Ext w (wc.setCell ⟨g,i*6+5,none⟩ (.int .i64 (US:Int))).drew):=B0 ((HX.out.setCell (p:=⟨g,i*6+5,none⟩) HG.out _).drew)
    clear e1 e2 e3 Em Kp Vt HO HX
    go_wp2_with fail
    go_loopw [7] (λt wr=>∃(u:Nat)(q:Int),u<=3/\q=(u:Int)/\t=.int .i64 q/\Hid (ROwn wr w.heap.size (.slice (some ⟨g,0,none⟩) N2 N2) (RT.set i (Cs.pA cs i 2 (Cs.minTo cs i 2 u))))/\Hid (Ext w wr)) (λt _=>3-(intOf t).toNat)
    case atStart=>exact qR
    case round=>
    clear Na Ba
    rename World=>wd
    obtain⟨u,q,hu,hq,rfl,HO,HX⟩:=hrel
    by_cases Yn:u<3
    .obtain⟨Kk,k1⟩:=ROwn.at_ HO.out (i:=i) (VQ (P0 Gb.out));have Po:Cs.minTo cs i 2 u<=1099511627776:=by
      have h:∀u,Cs.minTo cs i 2 u<=Cs.l5 cs i 2:=λu=>by
       induction u with
       |zero=>exact J0 _
       |succ u ih=>exact F3 (qS _ _) ih
      exact F3 (h u) (Lw.out 2 C0)
     have h3:u=0\/u=1\/u=2:=C0;rcases h3 with rfl|rfl|rfl;(·obtain rfl:q=0:=hq;have e1:=(k1 5 C0).1;have e2:=(k1 0 C0).1;have e3:=(k1 5 C0).2;have Em:Hid (ROwn (wd.setCell ⟨g,i*6+5,none⟩ (.int .i64 (Cs.minTo cs i 2 1:Nat))) w.heap.size (.slice (some ⟨g,0,none⟩) N2 N2) (RT.set i (Cs.pA cs i 2 (Cs.minTo cs i 2 1)))):=B0 (ROwn.put (c:=5) HO.out Gb.out C0 _ rfl);have Kp:=Lw.out 0 C0;have On:Hid (Cs.minTo cs i 2 1=min (Cs.minTo cs i 2 0) (1+Cs.l5 cs i 0)):=B0 rfl;dsimp only[rwC,Cs.pA,List.getElem?_cons_zero,List.getElem?_cons_succ,Nat.add_zero]at e1 e2 e3;simp only[A6,E4,M3,U4,reduceIte]at e1;generalize Cs.l5 cs i 0=UU at*;generalize Cs.minTo cs i 2 0=MM at*;clear k1;go_upto_region 16 with fail;go_region;have HV:Hid (((Cs.minTo cs i 2 1:Nat):Int)=min (MM:Int) (1+(UU:Int))):=B0 YE;have Lu:Hid (ROwn (wd.setCell ⟨g,i*6+5,none⟩ (.int .i64 (min (MM:Int) (1+(UU:Int))))).drew w.heap.size (.slice (some ⟨g,0,none⟩) N2 N2) (RT.set i (Cs.pA cs i 2 (Cs.minTo cs i 2 1)))):=B0 YF;have Hi:Hid (Ext w (wd.setCell ⟨g,i*6+5,none⟩ (.int .i64 (min (MM:Int) (1+(UU:Int))))).drew):=B0 ((HX.out.setCell (p:=⟨g,i*6+5,none⟩) HG.out _).drew);exact qT);(·obtain rfl:q=1:=hq;have e1:=(k1 5 C0).1;have e2:=(k1 1 C0).1;have e3:=(k1 5 C0).2;have Em:Hid (ROwn (wd.setCell ⟨g,i*6+5,none⟩ (.int .i64 (Cs.minTo cs i 2 2:Nat))) w.heap.size (.slice (some ⟨g,0,none⟩) N2 N2) (RT.set i (Cs.pA cs i 2 (Cs.minTo cs i 2 2)))):=B0 (ROwn.put (c:=5) HO.out Gb.out C0 _ rfl);have Kp:=Lw.out 1 C0;have On:Hid (Cs.minTo cs i 2 2=min (Cs.minTo cs i 2 1) (1+Cs.l5 cs i 1)):=B0 rfl;dsimp only[rwC,Cs.pA,List.getElem?_cons_zero,List.getElem?_cons_succ,Nat.add_zero]at e1 e2 e3;simp only[A6,E4,M3,U4,reduceIte]at e1;generalize Cs.l5 cs i 1=UU at*;generalize Cs.minTo cs i 2 1=MM at*;clear k1;go_upto_region 16 with fail;go_region;have HV:Hid (((Cs.minTo cs i 2 2:Nat):Int)=min (MM:Int) (1+(UU:Int))):=B0 YE;have Lu:Hid (ROwn (wd.setCell ⟨g,i*6+5,none⟩ (.int .i64 (min (MM:Int) (1+(UU:Int))))).drew w.heap.size (.slice (some ⟨g,0,none⟩) N2 N2) (RT.set i (Cs.pA cs i 2 (Cs.minTo cs i 2 2)))):=B0 YF;have Hi:Hid (Ext w (wd.setCell ⟨g,i*6+5,none⟩ (.int .i64 (min (MM:Int) (1+(UU:Int))))).drew):=B0 ((HX.out.setCell (p:=⟨g,i*6+5,none⟩) HG.out _).drew);exact qU);·obtain rfl:q=2:=hq;have e1:=(k1 5 C0).1;have e2:=(k1 2 C0).1;have e3:=(k1 5 C0).2;have Em:Hid (ROwn (wd.setCell ⟨g,i*6+5,none⟩ (.int .i64 (Cs.minTo cs i 2 3:Nat))) w.heap.size (.slice (some ⟨g,0,none⟩) N2 N2) (RT.set i (Cs.pA cs i 2 (Cs.minTo cs i 2 3)))):=B0 (ROwn.put (c:=5) HO.out Gb.out C0 _ rfl);have Kp:=Lw.out 2 C0;have On:Hid (Cs.minTo cs i 2 3=min (Cs.minTo cs i 2 2) (1+Cs.l5 cs i 2)):=B0 rfl;dsimp only[rwC,Cs.pA,List.getElem?_cons_zero,List.getElem?_cons_succ,Nat.add_zero]at e1 e2 e3;simp only[A6,E4,M3,U4,reduceIte]at e1;generalize Cs.l5 cs i 2=UU at*;generalize Cs.minTo cs i 2 2=MM at*;clear k1;go_upto_region 16 with fail;go_region;have HV:Hid (((Cs.minTo cs i 2 3:Nat):Int)=min (MM:Int) (1+(UU:Int))):=B0 YE;have Lu:Hid (ROwn (wd.setCell ⟨g,i*6+5,none⟩ (.int .i64 (min (MM:Int) (1+(UU:Int))))).drew w.heap.size (.slice (some ⟨g,0,none⟩) N2 N2) (RT.set i (Cs.pA cs i 2 (Cs.minTo cs i 2 3)))):=B0 YF;have Hi:Hid (Ext w (wd.setCell ⟨g,i*6+5,none⟩ (.int .i64 (min (MM:Int) (1+(UU:Int))))).drew):=B0 ((HX.out.setCell (p:=⟨g,i*6+5,none⟩) HG.out _).drew);exact qV
    obtain rfl:u=3:=by omega
    obtain rfl:q=3:=hq
    have Ed:Hid (ROwn wd w.heap.size (.slice (some ⟨g,0,none⟩) N2 N2) (RT.set i (Cs.pA cs i 3 0))):=B0 qW
    clear hu Yn HO
    go_wp2_with fail
    go_roundw
    case rel=>exact⟨3,3,by omega,rfl,by go_num,Ed,HX⟩
    case measure=>exact Qr
  obtain rfl:s=3:=by omega
  obtain rfl:q=3:=hq
  have Ed:Hid (ROwn wc w.heap.size (.slice (some ⟨g,0,none⟩) N2 N2) (Cs.Hx cs i)):=B0 (by have h:=HO.out;rw[Zog HIC.out,HRT.out,Tq.out,<-Cs.rowsTo_step HIC.out]at h;exact h)
  clear hs hlt HO
  go_wp2_with fail
  go_roundw
  case rel=>exact⟨i,(i:Int)-1,by omega,rfl,rfl,Ed,HX⟩
  case measure=>exact Qr
end
end Go.Proofs.Enc
