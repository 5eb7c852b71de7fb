/-
  Laid.
-/
import Derived.Test.YtbngggoccndefaaGreatDoorRt40
set_option maxHeartbeats 8000000
set_option maxRecDepth 100000
set_option linter.all false
namespace Go.Proofs.YtbngggoccndefaaGreatDoor
open Go.Proofs.Tryz
section
open Go.RowKit
theorem jD (ws:List Int):∀(l:List Int) (t:Int),Ln.quants ws (l++[t])=Ln.quants ws l++(if(Rn.quant ws t).2=0 then [(Rn.quant ws t).1]else [])
 | [],t=>by simp[Ln.quants]
 |x::l,t=>by rw[P2,Ln.quants,Ln.quants,jD ws l t,G1]
def CanL (w:World) (ws D T:List Int) (v12 vl ti:Value) (wr:World):Prop:=∃(j:Nat) (xs:List Cd),j<=T.length∧ti=.int .i64 (j:Int)∧xs.length<=j+1∧Hid (COwn wr w.heap.size vl xs)∧Hid (ZE wr xs (D::Ln.quants ws (T.take j)))∧Hid (Own 3 wr w.heap.size v12 (T.map encI))∧Hid (Ext w wr)
def CanM (w:World) (D T:List Int) (x:Cd) (wa:World) (s12:Value) (wx:World):Prop:=
 Own 3 wx (wa.heap.size+1) s12 (T.map encI)∧COwn wx w.heap.size (.slice (some ⟨wa.heap.size,0,none⟩) 1 1) [x]∧Own 3 wx 0 (cdV x) (D.map encI)∧Ext w wx
theorem CanM.grow {w wa wx w5:World} {D T:List Int} {y:Int} {x:Cd} {s v':Value} (h:CanM w D T x wa s wx) (h5:Own 3 w5 (wa.heap.size+1) v' ((T++[y]).map encI)) (hg:wx.grownBy w5 s.ownBlock)
 (hx:∀k,(cdV x).ownBlock=some k->k<wa.heap.size):CanM w D (T++[y]) x wa v' w5:=by
 obtain⟨h1,h2,h3,h4⟩:=h
 have hlow:=h1.low
 refine⟨h5,T8 h2 hg (.inr fun e=> ?_),h3.kept hg ?_,h4.ofGrown hg fun k hk=> ?_⟩
 ·have:wa.heap.size+1<=wa.heap.size:=hlow _ e.symm;omega
 ·cases hb:(cdV x).ownBlock with
  |none=>exact .inl rfl
  |some k=>refine .inr fun e=> ?_;have h6:=hx k hb;have h7:=hlow k e.symm;omega
 ·have h6:=hlow k hk;have h7:w.heap.size<=wa.heap.size:=h2.low _ rfl;omega
theorem jE (ws:List Int):(Tw.wide ws).1.length<=ws.length:=by
 unfold Tw.wide
 split
 ·exact U0 _
 split
 ·exact U0 _
 repeat' (first|split|(dsimp only))
 all_goals simp
theorem nP (v:Value) (ws:List Int) (w:World) (hv:Sl w v (ws.map encI)) (hne:ws≠ []) (hl:ws.length<=65536) (hw:∀x∈ws,1<=x∧x<=65536):
 Calls prog 86 #[v] w fun e w'=>∃u,e=.returned u∧CSl w' u (Ln.cands ws)∧Ext w w':=by
 have HUN:=B0 (fun w' (h:Ext w w')=>dD v ws w' (hv.ext h) C0 hw)
 have HQN:=B0 (fun t w' (h:Ext w w') (ht:t<=1000000000)=>eI v ws t w' (hv.ext h) C0 ht)
 have HWD:=B0 (fun w' (h:Ext w w')=>BS v ws w' (hv.ext h) C0)
 obtain⟨hu1,hud⟩:=Rn.unit_is (fun x hx=>(hw x hx).1) hne
 have hsu:=Rn.sum_unit (fun x hx=>(hw x hx).1) hne
 have hpos:1<=ws.length:=F6.2 hne
 have hsb:=Rn.sum_in hw
 have HCA:=B0 (show Ln.cands ws=(ws.map fun x=>x/Rn.unit ws)::(Ln.quants ws (Ln.totals ws.length)++Ln.wides ws)from rfl)
 have HWI:=B0 (show Ln.wides ws=if(Tw.wide ws).2=0 then [clsW (Tw.wide ws).1]else []from rfl)
 obtain⟨res,hres⟩:∃res,res=Ln.cands ws:=⟨_,rfl⟩
 rw[<-hres]at HCA⊢
 obtain⟨U,hU⟩:∃U,U=Rn.unit ws:=⟨_,rfl⟩
 rw[<-hU]at HUN hu1 hud hsu HCA
 obtain⟨SM,hSM⟩:∃SM,SM=Rn.sum ws:=⟨_,rfl⟩
 rw[<-hSM]at hsu hsb
 obtain⟨D,hD⟩:∃D,D=ws.map fun x=>x/U:=⟨_,rfl⟩
 rw[<-hD]at HCA hsu
 have hDl:D.length=ws.length:=by rw[hD,N0]
 have HDA:Hid (∀(j:Nat) (x:Int),ws[j]? =some x->D[j]? =some (x/U)):=B0 (fun j x h=>by rw[hD,X2,h];rfl)
 obtain⟨a,c,rfl⟩:=hv.form
 rw[N0]at hv HUN HQN HWD⊢
 obtain⟨n,hn⟩:∃n,n=ws.length:=⟨_,rfl⟩
 rw[<-hn]at hv hl HUN HQN HWD HCA hDl hpos⊢
 have HN:=B0 hn
 have HV:=B0 hv
 have HS:=B0 hSM
 have HIN:=B0 hw
 have HDL:=B0 hDl
 have hs0:=hsb.1
 have hs1:SM<=4294967296:=A9
 have zU:(U==0)=false:=V0.2 C0
 have hU0:U≠0:=by omega
 have hDn:D≠ []:=fun e=>by rw[e]at hDl;simp at hDl;omega
 have HDN:=B0 hDn
 obtain⟨SD,hSD⟩:∃SD,SD=SM/U:=⟨_,rfl⟩
 have HSD:Hid (SD=Rn.sum D):=B0 (by rw[hSD];exact hsu)
 have hsd0:0<=SD:=by rw[hSD];exact OS hs0 C0
 have hsd1:SD<=4294967296:=by rw[hSD];exact OT (OU U hs0) hs1
 have hsde:=hSD.symm
 have hsdt:SM.tdiv U=SD:=by rw[hSD,TP hs0]
 clear hv hw hne hn hSM hsb hres hU hD hDl hsu hud hDn hSD
 go_enter func86,ntmps86
 go_wp2_with fail
 go_loop [4,23] (fun s i=>∃(j:Nat) (t:Int),j<=n∧i=.int .i64 (j:Int)∧s=.int .i64 t∧0<=t∧t<=65536*(j:Int)∧Hid (t=Rn.sum (ws.take j))) (fun _ i=>n-(intOf i).toNat)
 case atStart=>exact UW
 case round=>
 obtain⟨j,t,hj,rfl,rfl,ht0,ht1,HT⟩:=hrel
 by_cases hlt:j<n
 ·exact Qs
 obtain rfl:n=j:=by omega
 obtain rfl:t=SM:=by have h2:=HT.out;exact jF
 clear hj hlt HT ht0 ht1
 go_wp2_with fail
 refine(HUN.out w (Ext.refl _)).mono ?_
 rintro e w1 ⟨rfl,hx1⟩
 have HX1:=B0 hx1
 obtain⟨wm,hmk,hOm,hXm⟩:=WH w1 n w1.heap.size C0 (I0 _)
 have HOm:=B0 hOm
 have HXm:=B0 hXm
 clear hOm hXm hx1
 go_wp2_with fail
 go_loopw [37] (fun t wr=>∃j:Nat,j<=n∧t=.int .i64 (j:Int)∧Hid (Own 3 wr w1.heap.size (.slice (some ⟨w1.heap.size,0,none⟩) n n) ((D.take j++List.replicate (n-j) (0:Int)).map encI))∧Hid (Ext w1 wr)) (fun t _=>n-(intOf t).toNat)
 case atStart=>exact PP
 case round=>
 clear HOm HXm hmk
 obtain⟨j,hj,rfl,HO,HX⟩:=hrel
 by_cases hlt:j<n
 ·obtain⟨x,hxj⟩:∃x,ws[j]? =some x:=⟨_,P0 U3⟩;obtain⟨b,o,ha,hb,hc⟩:=HV.out.int_at (HX1.out.trans HX.out) hxj;subst ha;have hjI:(j:Int)<(n:Int):=C0;obtain⟨hx1,hx2⟩:=HIN.out x (I1 hxj);have hlen:(D.take j++List.replicate (n-j) (0:Int)).length=n:=(by rw[O0,L1,C3,HDL.out];omega);obtain⟨xo,co,fo⟩:=HO.out.intAt (i:=j) (by rw[hlen];exact hlt);obtain⟨q,hq⟩:∃q,q=x/U:=⟨_,rfl⟩;have hq0:0<=q:=(by rw[hq];exact OS C0 C0);have hq1:q<=65536:=(by rw[hq];exact OT (OU U C0) hx2);have hqe:=hq.symm;have hqt:x.tdiv U=q:=(by rw[hq,TP C0]);have hO9:=(HO.out.putI j q).1;rw[OR HDL.out (by rw[hq];exact HDA.out j x hxj)]at hO9;have HO9:=B0 hO9;clear hq hO9 hxj;go_wp2_with fail;go_roundw;(case rel=>exact⟨j+1,by omega,by go_num,HO9,B0 (HX.out.setCell (p:=⟨w1.heap.size,j,none⟩) (I0 _) _)⟩);case measure=>exact Qr
 obtain rfl:n=j:=by omega
 have HO1:Hid (Own 3 wr w1.heap.size (.slice (some ⟨w1.heap.size,0,none⟩) n n) (D.map encI)):=B0 (by have h:=HO.out;rw[O3,WI,B3,P1 (by rw[HDL.out];exact I0 _)]at h;exact h)
 have HX2:=B0 (HX1.out.trans HX.out)
 rename World=>wa
 clear hj hlt HO HX
 have hsz:=HX2.out.size
 obtain⟨T1,hT1⟩:∃T:List Int,T=(if n=59 then [95]else if n=43 then [67]else if n=33 then [51]else []):=⟨_,rfl⟩
 obtain⟨T2,hT2⟩:∃T:List Int,T=(if 13<=n∧(n-7)%6=0 then [Ln.total11 n]else []):=⟨_,rfl⟩
 have HCA2:Hid (res=D::(Ln.quants ws (T1++T2)++Ln.wides ws)):=B0 (by rw[hT1,hT2];exact HCA.out)
 have HB1:Hid (∀x∈T1++T2,0<=x∧x<=1000000000):=B0 (by intro x hx;rcases M2.1 hx with h|h;(·rw[hT1]at h;(repeat' split at h)<;>simp at h<;>omega);·rw[hT2]at h;split at h;(·rw[Y2]at h;unfold Ln.total11 at h;omega);·cases h)
 have HT1:=B0 hT1
 have HT2:=B0 hT2
 have hT1l:T1.length<=1:=by rw[hT1];(repeat' split)<;>simp
 have hT2l:T2.length<=1:=by rw[hT2];split<;>simp
 obtain⟨x0,hx0⟩:∃x:Cd,x=((some ⟨w1.heap.size,0,none⟩,n,n),SD):=⟨_,rfl⟩
 have HLV:Hid (∀k,(cdV x0).ownBlock=some k->k<wa.heap.size):=B0 (fun k hk=>by have h:=(J4 HO1.out _ rfl).2;rw[hx0]at hk;injection hk with hk;subst hk;exact h)
 obtain⟨wb,hwb⟩:∃wb,wb=wa.alloc (.cells #[.slice (some ⟨w1.heap.size,0,none⟩) n n,.int .i64 SD] 126):=⟨_,rfl⟩
 have HC5:Hid (COwn wb w.heap.size (.slice (some ⟨wa.heap.size,0,none⟩) 1 1) [x0]):=B0 (by rw[hwb,hx0];exact COwn.one (x:=((some ⟨w1.heap.size,0,none⟩,n,n),SD)) (E2 wa _) HX2.out.size)
 have HD5:Hid (Own 3 wb 0 (cdV x0) (D.map encI)):=B0 (by rw[hwb,hx0];exact(HO1.out.mono (U0 _)).alloc _)
 have HX5:Hid (Ext w wb):=B0 (by rw[hwb];exact HX2.out.alloc _)
 have HSB:Hid (wb.heap.size=wa.heap.size+1):=B0 (by rw[hwb];simp)
 have HX0:=B0 hx0
 have HWB:=B0 hwb
 clear hT1 hT2 hx0 hwb HCA
 have hlv:=HLV.out
 go_upto_block 4 with fail
 go_cut [12]from 19 (fun s12 wx=>Hid (CanM w D T1 x0 wa s12 wx))
 case first=>by_cases h59:n=59;(·have z59:((n:Int)==59)=true:=C2.2 C0;have HTV:Hid (T1=[95]):=B0 (by rw[HT1.out,G0 h59]);clear h59;go_wp2_with (at_builtin;rw[<-HWB.out];refine Z1 rfl _ _ rfl (wa.heap.size+1) _ [] rfl (Own.nil _ _ _) _ 95 rfl ?c1 ?c2 ?c3 ?_);(case c1=>rw[<-HSB.out];exact V3);(case c2=>simp);(case c3=>exact FE);intro v' w5 hown5 hg5;have HM:Hid (CanM w D T1 x0 wa v' w5):=B0 (by rw[HTV.out];exact CanM.grow (T:=[]) (y:=95) ⟨Own.nil _ _ _,HC5.out.ext ((Ext.refl _).alloc _),HD5.out.alloc _,HX5.out.alloc _⟩ hown5 hg5 hlv);clear hown5 hg5;exact TQ);have z59:((n:Int)==59)=false:=V0.2 C0;by_cases h43:n=43;(·have z43:((n:Int)==43)=true:=C2.2 C0;have HTV:Hid (T1=[67]):=B0 (by rw[HT1.out,D0 h59,G0 h43]);clear h43;go_wp2_with (at_builtin;rw[<-HWB.out];refine Z1 rfl _ _ rfl (wa.heap.size+1) _ [] rfl (Own.nil _ _ _) _ 67 rfl ?c1 ?c2 ?c3 ?_);(case c1=>rw[<-HSB.out];exact V3);(case c2=>simp);(case c3=>exact FE);intro v' w5 hown5 hg5;have HM:Hid (CanM w D T1 x0 wa v' w5):=B0 (by rw[HTV.out];exact CanM.grow (T:=[]) (y:=67) ⟨Own.nil _ _ _,HC5.out.ext ((Ext.refl _).alloc _),HD5.out.alloc _,HX5.out.alloc _⟩ hown5 hg5 hlv);clear hown5 hg5;exact TQ);have z43:((n:Int)==43)=false:=V0.2 C0;by_cases h33:n=33;(·have z33:((n:Int)==33)=true:=C2.2 C0;have HTV:Hid (T1=[51]):=B0 (by rw[HT1.out,D0 h59,D0 h43,G0 h33]);clear h33;go_wp2_with (at_builtin;rw[<-HWB.out];refine Z1 rfl _ _ rfl (wa.heap.size+1) _ [] rfl (Own.nil _ _ _) _ 51 rfl ?c1 ?c2 ?c3 ?_);(case c1=>rw[<-HSB.out];exact V3);(case c2=>simp);(case c3=>exact FE);intro v' w5 hown5 hg5;have HM:Hid (CanM w D T1 x0 wa v' w5):=B0 (by rw[HTV.out];exact CanM.grow (T:=[]) (y:=51) ⟨Own.nil _ _ _,HC5.out.ext ((Ext.refl _).alloc _),HD5.out.alloc _,HX5.out.alloc _⟩ hown5 hg5 hlv);clear hown5 hg5;exact TQ);have z33:((n:Int)==33)=false:=V0.2 C0;have HTV:Hid (T1=[]):=B0 (by rw[HT1.out,D0 h59,D0 h43,D0 h33]);have HM:Hid (CanM w D T1 x0 wa (.slice none 0 0) wb):=B0 (by rw[HTV.out];exact⟨Own.nil _ _ _,HC5.out,HD5.out,HX5.out⟩);clear h59 h43 h33;go_wp2_with fail;rw[<-HWB.out];go_meet;case rel=>exact HM
 case rest=>
 have HM1:=hcut
 clear hcut HC5 HD5 HX5 HSB HWB HT1 hsz
 obtain⟨B2,hB2⟩:∃b:Bool,b=decide (13<=n∧(n-7)%6=0):=⟨_,rfl⟩
 have HB2:=B0 hB2
 clear hB2
 obtain⟨k,hk⟩:∃k,k=n-7:=⟨_,rfl⟩
 rw[<-hk]at HB2 HT2
 have HK:=B0 hk
 clear hk
 go_upto_region 24 with fail
 go_cut [78]from 19 (fun s78 wx=>s78=.bool B2∧wx=wc)
 case first=>by_cases h13:13<=n;(·have h13I:(13:Int)<=(n:Int):=C0;have hkI:(n:Int)-7=(k:Int):=(by have:=HK.out;omega);obtain⟨r,hr⟩:∃r:Int,r=(k:Int)%6:=⟨_,rfl⟩;have hr2:=hr.symm;have hr3:Int.tmod (k:Int) 6=r:=(by rw[hr];rfl);by_cases hk6:k%6=0;(·have zr:(r==0)=true:=C2.2 C0;obtain rfl:B2=true:=(by rw[HB2.out];exact F1 ⟨h13,hk6⟩);clear hr;exact WA);·have zr:(r==0)=false:=V0.2 C0;obtain rfl:B2=false:=(by rw[HB2.out];exact D1 (fun h=>hk6 h.2));clear hr;exact WA);·have h13I:¬(13:Int)<=(n:Int):=C0;obtain rfl:B2=false:=(by rw[HB2.out];exact D1 (fun h=>h13 h.1));exact WA
 case rest=>
 obtain⟨rfl,rfl⟩:=hcut
 go_upto_if 78 with fail
 go_cut [12]from 19 (fun s12 wx=>Hid (CanM w D (T1++T2) x0 wa s12 wx))
 case first=>
  cases B2 with
  |false=>have HM:Hid (CanM w D (T1++T2) x0 wa u12 wc):=B0 (by rw[HT2.out,D0 (SC HB2.out.symm),B3];exact HM1.out);exact TQ
  |true=>obtain⟨h13,hk6⟩:=N3 HB2.out.symm;have hkI:(n:Int)-7=(k:Int):=(by have:=HK.out;omega);obtain⟨tt,htt⟩:∃tt:Nat,tt=(11*k)/6:=⟨_,rfl⟩;have hte:11*(k:Int)/6=(tt:Int):=C0;have htT:(11*(k:Int)).tdiv 6=(tt:Int):=(by rw[TP C0,hte]);have HTV:Hid (T2=[(tt:Int)+13]):=B0 (by rw[HT2.out,G0 ⟨h13,hk6⟩,Ln.total11,hkI,hte]);have hkb:k<=65536:=(by have:=HK.out;omega);have htb:tt<=131072:=C0;have hm:=HM1.out;have hsz:=hm.2.2.2.size;have hcs:=(J4 hm.2.1 _ rfl).2;clear h13 hk6 htt;go_wp2_with (at_builtin;refine Z1 rfl _ _ rfl (wa.heap.size+1) _ T1 rfl (hm.1.alloc _) _ ((tt:Int)+13) rfl ?c1 ?c2 ?c3 ?_);(case c1=>exact V3);(case c2=>omega);(case c3=>first|(simp;done)|(simp;omega)|omega);intro v' w5 hown5 hg5;have HM:Hid (CanM w D (T1++T2) x0 wa v' w5):=B0 (by rw[HTV.out];exact CanM.grow ⟨hm.1.alloc _,hm.2.1.ext ((Ext.refl _).alloc _),hm.2.2.1.alloc _,hm.2.2.2.alloc _⟩ Y6 hg5 hlv);clear hown5 hg5 hm hsz hcs;exact TQ
 case rest=>
 have hm:=hcut.out
 clear hcut HM1 HT2 HB2 HK
 rw[HX0.out]at hm
 have HC5:Hid (COwn wc w.heap.size (.slice (some ⟨wa.heap.size,0,none⟩) 1 1) [((some ⟨w1.heap.size,0,none⟩,n,n),SD)]):=B0 hm.2.1
 have HH5:Hid (ZE wc [((some ⟨w1.heap.size,0,none⟩,n,n),SD)] [D]):=B0 (ZE.one HSD.out HDL.out.symm hm.2.2.1)
 have HX5:=B0 hm.2.2.2
 have HO5:=B0 (hm.1.mono (B':=w.heap.size) (L3 HX2.out.size (D3 _)))
 clear hm hlv
 obtain⟨T,hT⟩:∃T:List Int,T=T1++T2:=⟨_,rfl⟩
 obtain⟨L,hL⟩:∃L,T.length=L:=⟨_,rfl⟩
 rw[<-hT]at HCA2 HB1 HO5
 have HTB:=HB1
 have HCA5:=HCA2
 have HTL:=B0 hL
 obtain⟨A5,c5,rfl⟩:=HO5.out.sl.form
 rw[N0,hL]at HO5⊢
 have hLb:L<=2:=by rw[<-hL,hT,O0];have:T2.length<=1:=hT2l;omega
 clear hT hL HCA2 HB1 hT1l hT2l
 go_wp2_with fail
 go_loopw [11,89] (fun vl ti wr=>CanL w ws D T (.slice A5 L c5) vl ti wr) (fun _ t _=>L-(intOf t).toNat)
 case atStart=>exact⟨0,_,U0 _,rfl,by simp,HC5,by simpa[Ln.quants]using HH5,HO5,HX5⟩
 case round=>
 clear HC5 HH5 HO5 HX5
 obtain⟨j,xs,hj,rfl,hxl,HC,HH,HT,HX⟩:=hrel
 rw[HTL.out]at hj
 by_cases hlt:j<L
 ·obtain⟨x,hxj⟩:∃x,T[j]? =some x:=⟨_,P0 (by rw[HTL.out];exact hlt)⟩;obtain⟨hx0,hx1⟩:=HTB.out x (I1 hxj);obtain⟨xt,rfl⟩:∃xt:Nat,x=(xt:Int):=⟨x.toNat,by omega⟩;obtain⟨b,o,ha,hb,hc⟩:=HT.out.slk.1.int_at (Ext.refl wr) hxj;subst ha;have hjI:(j:Int)<L:=C0;have HQ9:=B0 (HQN.out xt wr HX.out C0);have HQS:=B0 (fun h=> @Rn.quant_sum ws (xt:Int) h);have HQU:Hid (Ln.quants ws (T.take (j+1))=Ln.quants ws (T.take j)++(if(Rn.quant ws (xt:Int)).2=0 then [(Rn.quant ws (xt:Int)).1]else [])):=B0 (by rw[Z2 hxj,jD]);obtain⟨⟨ql,qe⟩,hqr⟩:∃r,r=Rn.quant ws (xt:Int):=⟨_,rfl⟩;rw[<-hqr]at HQ9 HQS HQU;dsimp only at HQU HQS;clear hqr hxj;go_wp2_with fail;refine HQ9.out.mono ?_;rintro e w2 ⟨u,rfl,hu,hx2⟩;dsimp only at hu⊢;obtain⟨-,au,cu,rfl,-⟩:=hu.slk;rw[N0]at hu⊢;have HU:=B0 hu;have HX2':=B0 (HX.out.trans hx2);have HC2:=B0 (HC.out.ext hx2);have HH2:=B0 (HH.out.ext hx2);have HT2:=B0 (HT.out.ext hx2);clear hu hx2 HC HH HT hc;by_cases hqe:qe=0;(·have hqs:=(HQS.out hqe).1;subst hqe;have hsz:=HX2'.out.size;have HQ3:Hid (Ln.quants ws (T.take (j+1))=Ln.quants ws (T.take j)++[ql]):=B0 (by rw[HQU.out,G0 rfl]);have hc2:=HC2.out;go_wp2_with (at_builtin;refine jC rfl _ _ rfl w.heap.size _ xs rfl (hc2.ext ((Ext.refl _).alloc _)) _ ((au,ql.length,cu),(xt:Int)) rfl ?ke1 ?ke4 ?ke2 ?ke3 ?_);(case ke1=>simp[go_sem,cdV]);(all_goals(try(case ke4=>simp[go_sem])));(case ke2=>omega);(case ke3=>exact W4);intro v' w5 hown5 hg5;have HX9:=B0 ((HX2'.out.alloc _).ofGrown hg5 hc2.low);have HC9:=B0 hown5;have HT9:Hid (Own 3 w5 w.heap.size (.slice (some ⟨b,o,none⟩) L c5) (T.map encI)):=B0 ((HT2.out.alloc _).kept hg5 (Own.apart HT2.out hc2 J0));have HH9:Hid (ZE w5 (xs++[((au,ql.length,cu),(xt:Int))]) (D::Ln.quants ws (T.take (j+1)))):=B0 (by rw[HQ3.out,<-P2];refine ZE.snoc ((HH2.out.ext ((Ext.refl _).alloc _)).grown (hc2.ext ((Ext.refl _).alloc _)) hg5) hqs.symm rfl ?_;exact((HU.out.mono (U0 _)).alloc _).kept hg5 (Own.apart HU.out hc2 J0));have hxl9:(xs++[((au,ql.length,cu),(xt:Int))]).length<=j+1+1:=PO;clear hown5 hg5 hc2 HX2' HC2 HH2 HT2 HU;go_wp2_with fail;go_roundw;(case rel=>exact⟨j+1,_,by rw[HTL.out];omega,by go_num,hxl9,HC9,HH9,HT9,HX9⟩);case measure=>exact Qr);·have z:(qe==0)=false:=V0.2 hqe;have HH9:Hid (ZE w2 xs (D::Ln.quants ws (T.take (j+1)))):=B0 (by rw[HQU.out,D0 hqe,B3];exact HH2.out);go_wp2_with fail;go_roundw;(case rel=>exact⟨j+1,_,by rw[HTL.out];omega,by go_num,by omega,HC2,HH9,HT2,HX2'⟩);case measure=>exact Qr
 ·obtain rfl:j=L:=C0;have HH1:Hid (ZE wr xs (D::Ln.quants ws T)):=B0 (by have h:=HH.out;rw[P1 (by rw[HTL.out];exact I0 _)]at h;exact h);have HW9:=B0 (HWD.out wr HX.out);clear HH HT hlt hj;go_wp2_with fail;refine HW9.out.mono ?_;rintro e w2 ⟨u,rfl,hu,hx2⟩;have HU:=B0 hu;have HX2':=B0 (HX.out.trans hx2);have HC2:=B0 (HC.out.ext hx2);have HH2:=B0 (HH1.out.ext hx2);clear hu hx2 HC HH1;have hwl:=jE ws;obtain⟨⟨wb,we⟩,hwr⟩:∃r,r=Tw.wide ws:=⟨_,rfl⟩;rw[<-hwr]at HU HWI hwl⊢;dsimp only at HU HWI hwl⊢;have hwl2:wb.length<=400000:=(by rw[<-HN.out]at hwl;omega);clear hwr hwl;by_cases hwe:we=0;(·subst hwe;have HF:Hid (res=(D::Ln.quants ws T)++[clsW wb]):=B0 (by rw[HCA5.out,HWI.out,G0 rfl];rfl);have HCL:=B0 (fun w' h=>nA u wb w' h hwl2);go_wp2_with fail;refine(HCL.out w2 HU.out).mono ?_;rintro e w3 ⟨a3,c3,rfl,hu3,hx3⟩;have HU3:=B0 hu3;have HX3:=B0 (HX2'.out.trans hx3);have HH3:=B0 (HH2.out.ext hx3);have hsz:=HX3.out.size;have hc2:=HC2.out.ext hx3;clear hu3 hx3 HX2' HC2 HH2;go_wp2_with (at_builtin;refine jC rfl _ _ rfl w.heap.size _ xs rfl (hc2.ext ((Ext.refl _).alloc _)) _ ((a3,(clsW wb).length,c3),Rn.sum (clsW wb)) rfl ?kd1 ?kd4 ?kd2 ?kd3 ?_);(case kd1=>simp[go_sem,cdV]);(all_goals(try(case kd4=>simp[go_sem])));(case kd2=>omega);(case kd3=>exact W4);intro v' w5 hown5 hg5;have HX9:=B0 ((HX3.out.alloc _).ofGrown hg5 hc2.low);have HS9:Hid (CSl w5 v' res):=B0 (by rw[HF.out];refine CSl.of hown5 ?_ L0;refine ZE.snoc ((HH3.out.ext ((Ext.refl _).alloc _)).grown (hc2.ext ((Ext.refl _).alloc _)) hg5) rfl rfl ?_;exact((HU3.out.mono (U0 _)).alloc _).kept hg5 (Own.apart HU3.out hc2 J0));clear hown5 hg5 hc2;go_wp2_with fail;go_ret;exact⟨_,rfl,HS9.out,HX9.out⟩);·have z:(we==0)=false:=V0.2 hwe;have HS9:Hid (CSl w2 _ res):=B0 (by rw[HCA5.out,HWI.out,D0 hwe,B3];exact CSl.of HC2.out HH2.out L0);go_wp2_with fail;go_ret;exact⟨_,rfl,HS9.out,HX2'.out⟩
end
section
open Go.RowKit Go.Maps Go Go.WideMaps Go.WideShapes
theorem nQ {P:Program} {k e:TypeId} {q:IntKind} (A:ArrKey P k e 6) (he:P.underlying e=some (.int q)) (hsz:∃m,P.types.size=m+1) {a b c d f g:Int} (wa:(Lit.int q a).wf=true) (wb:(Lit.int q b).wf=true) (wc:(Lit.int q c).wf=true) (wd:(Lit.int q d).wf=true) (wf:(Lit.int q f).wf=true) (wg:(Lit.int q g).wf=true):
 keyOf P k (.agg #[.int q a,.int q b,.int q c,.int q d,.int q f,.int q g])=some (.string (keyBytes [.int q a,.int q b,.int q c,.int q d,.int q f,.int q g])):=by
 have hkt:=A.keyType hsz
 obtain⟨m,hm⟩:=hsz
 unfold keyOf
 simp only[A.hu]
 rw[G0 (by simp[hkt,Value.formed,A.hu,A.size]),hm]
 unfold Program.keyLits
 simp only[A.hu,Value.cells]
 rw[G0 (by rw[A.size];rfl),show List.range 6=[0,1,2,3,4,5]from rfl,H9,H9,H9,H9,H9,H9,List.mapM_nil]
 simp[A.one,Program.keyLits,he,wa,wb,wc,wd,wf,wg]
def Cc.key (l:List Int):Value:=.agg (l.map encI).toArray
theorem Cc.key_inj (a b:List Int) (h:Cc.key a=Cc.key b):a=b:=by unfold Cc.key at h;injection h with h;have h:=List.toArray_inj h;exact(List.map_inj_right (fun x y e=>by unfold encI at e;injection e)).1 h
theorem Cc.arr6:ArrKey prog 172 3 6:=⟨underlying172,by kernel_rfl,by kernel_rfl,by kernel_rfl⟩
theorem Cc.laid:laidOutB prog=true:=Y0
theorem Cc.keyed:Keyed prog 172:=
 Keyed.of_law (deep_law_laid Cc.laid (m:=2) C0 (N3 M0) M0 (by rw[underlying172]))
theorem Cc.wf_of {x:Int} (h: -1000000<=x∧x<=1000000):(Lit.int .i64 x).wf=true:=AK
theorem Cc.keyOf_six' {l:List Int} (h6:l.length=6) (hb:∀x∈l,-1000000<=x∧x<=1000000):∃t,keyOf prog 172 (Cc.key l)=some t:=by
 match l,h6 with
 | [a,b,c,d,f,g],_=>exact⟨_,nQ Cc.arr6 underlying3 ⟨prog.types.size-1,by kernel_rfl⟩ (Cc.wf_of (hb a L0)) (Cc.wf_of (hb b L0)) (Cc.wf_of (hb c L0)) (Cc.wf_of (hb d L0)) (Cc.wf_of (hb f L0)) (Cc.wf_of (hb g L0))⟩
def Cc.fTo (n:Nat) (w:List Int):Option Int:=((Cc.pats.take n).findIdx? fun p=>p==w).map fun(i:Nat)=>(i:Int)
theorem Cc.fTo_zero:Cc.fTo 0=fun _=>none:=rfl
theorem Cc.fTo_all:Cc.fTo 106=fun w=>(Cc.valOf w).map fun(i:Nat)=>(i:Int):=rfl
theorem Cc.pats_nodup:Cc.pats.Nodup:=Y1
theorem Cc.pats_len:Cc.pats.length=106:=rfl
theorem Cc.fTo_succ (n:Nat) (hn:n<106):Cc.fTo (n+1)=fun w=>if w=Cc.pats.getD n []then some (n:Int)else Cc.fTo n w:=by
 funext w;have hp:Cc.pats[n]? =some (Cc.pats.getD n []):=by rw[A1,P0 (by rw[Cc.pats_len];exact hn)];rfl
 obtain⟨p,hpp⟩:∃p,p=Cc.pats.getD n []:=⟨_,rfl⟩;rw[<-hpp]at hp⊢;have hnd:=Cc.pats_nodup;have ht:Cc.pats.take (n+1)=Cc.pats.take n++[p]:=by rw[R5,hp];rfl
 have hl:(Cc.pats.take n).length=n:=by rw[L1,Cc.pats_len];omega
 unfold Cc.fTo;rw[ht,List.findIdx?_append];by_cases hw:w=p;·subst hw;rw[G0 rfl];have hnot:(Cc.pats.take n).findIdx? (fun q=>q==w)=none:=(by rw[List.findIdx?_eq_none_iff];intro x hx;refine V0.2 fun e=> ?_;subst e;have h2:(Cc.pats.take (n+1)).Nodup:=hnd.sublist (List.take_sublist _ _);rw[ht,List.nodup_append]at h2;exact h2.2.2 x hx x (Y2.2 rfl) rfl);rw[hnot];simp[hl]
 ·rw[D0 hw];have:([p]:List (List Int)).findIdx? (fun q=>q==w)=none:=(by rw[List.findIdx?_eq_none_iff];intro x hx;rw[Y2]at hx;subst hx;exact V0.2 fun e=>hw e.symm);rw[this];simp
theorem Rn.mem_sum {l:List Int} (h:∀x∈l,1<=x):∀x∈l,x<=Rn.sum l:=by
 induction l with
 |nil=>intro x hx;cases hx
 |cons y l ih=>intro x hx;have h1:=h y (B1 ..);have h2:=Rn.sum_pos l (fun z hz=>h z (C1 _ hz));rw[Rn.sum_cons];rcases U1.1 hx with rfl|hx;(·omega);·have:=ih (fun z hz=>h z (C1 _ hz)) x hx;omega
theorem Rn.widths_in (s:List Bool):(∀x∈Rn.widths s,1<=x∧x<=(s.length:Int))∧(Rn.widths s).length<=s.length:=by have hp:=Rn.widths_pos s;have h1:=Rn.mods_len (Rn.widths s) true hp;rw[Rn.mods_widths]at h1;have h2:=Rn.core_le s;have h3:=Rn.sum_pos _ hp;exact⟨fun x hx=>⟨hp x hx,by have:=Rn.mem_sum hp x hx;omega⟩,by omega⟩
theorem Sl.range6 {w wr:World} {b o n c:Nat} {ws:List Int} (h:Sl w (.slice (some ⟨b,o,none⟩) n c) (ws.map encI)) (hx:Ext w wr) (i:Nat):wr.rangeAt b (o+i) (((ws.drop i).take 6).map encI):=by
 intro j v hj;rw[X2,XX]at hj;split at hj
 ·rw[YJ]at hj
  cases hw:ws[i+j]? with
  |none=>rw[hw]at hj;cases hj
  |some x=>rw[hw]at hj;obtain⟨b',o',ha,_,hc⟩:=h.int_at hx hw;injection ha with ha;injection ha with h1 h2;subst h1 h2;rw[<-Nat.add_assoc]at hc;rw[hc];exact hj
 ·cases hj
theorem jG {w:World} {a:Option Addr} {c:Nat}:(Instr.arrayAt 172 (.slice a 6 c)).run prog w=.ok (.pointer a) w:=by unfold Instr.arrayAt;rw[SG,YK underlying172 w];rfl
end
section
open Go.RowKit
def RdR (o:Option Ln.Lin) (w:World) (e:Ending) (w':World):Prop:=
 ∃(x:Ln.Lin),e=.returned (.tuple #[linV x.1 x.2.1 x.2.2,.bool o.isSome])∧(o.isSome=true->o=some x)∧Ext w w'
theorem RdR.none {w w':World} (h:Ext w w'):RdR none w (.returned (.tuple #[.agg #[.int .i64 0,.string ⟨#[]⟩,.string ⟨#[]⟩],.bool false])) w':=⟨Ln.zero,rfl,(fun h=>by cases h),h⟩
theorem RdR.some {w w':World} {k:Int} {t:List UInt8} (h:Ext w w'):RdR (some (k,t,[])) w (.returned (.tuple #[.agg #[.int .i64 k,.string (Ea.bS t),.string ⟨#[]⟩],.bool true])) w':=⟨(k,t,[]),rfl,fun _=>rfl,h⟩
theorem Y5 {w w':World} {o:Obj} {x y z:Value} {t:TypeId} (h:Ext ((w.alloc o).alloc (.cells #[x,y,z] t)) w'):w'.heap[w.heap.size+1]? =some (.cells #[x,y,z] t (0,0)):=
 Z9 L0 h
theorem Zu {w w':World} {b:Nat} (h:Ext w w') (hb:w.heap.size<=b) (p q r:Value):Ext w (((w'.setCell ⟨b,0,none⟩ p).setCell ⟨b,1,none⟩ q).setCell ⟨b,2,none⟩ r):=((h.setCell hb _).setCell hb _).setCell hb _
theorem FF (kind:Int) (v:Value) (m:List Bool) (w:World) (hv:SlK w v (m.map encT)) (hm:m.length<=1000000):
 Calls prog 81 #[.agg #[v],.int .i64 kind] w (RdR (Ln.rTwo kind m) w):=by
 obtain⟨res,hres⟩:∃res,res=Ln.rTwo kind m:=⟨_,rfl⟩
 rw[<-hres]
 unfold Ln.rTwo at hres
 have HW:=B0 (fun w' (h:Ext w w')=>KX v m w' (hv.ext h) hm)
 have hwl:(Rn.widths m).length<=1000000:=L3 (Rn.widths_in m).2 hm
 obtain⟨ws,hws⟩:∃ws,ws=Rn.widths m:=⟨_,rfl⟩
 rw[<-hws]at HW hres hwl
 have HD:=B0 (fun v w' (h:Sl w' v (ws.map encI))=>kF kind v ws false w' h hwl)
 obtain⟨⟨t,er⟩,hd⟩:∃r,r=Tw.dec kind ws false:=⟨_,rfl⟩
 rw[<-hd]at HD hres
 have HR:=B0 hres
 obtain⟨-,a,c,rfl,-⟩:=hv
 rw[N0]at HW⊢
 generalize m.length=ml at*
 obtain⟨T,hT⟩:∃T,T=Ea.bS t:=⟨_,rfl⟩
 have HT:=B0 hT
 have HD2:Hid (∀v w',Sl w' v (ws.map encI)->Calls prog 21 #[.int .i64 kind,v,.bool false] w' fun e w''=>e=.returned (.tuple #[.string T,.int .i64 er])∧Ext w' w''):=B0 (fun v w' h=>by rw[hT];exact HD.out v w' h)
 clear hws hd hres hT HD
 by_cases he:er=0
 ·have HF:Hid (res=some (kind,t,[])):=B0 (by rw[HR.out,G0 he]);subst he;clear HR;go_enter func81,ntmps81;go_wp2_with fail;refine(HW.out _ Xf).mono ?_;rintro e w1 ⟨u,rfl,hu,hx1⟩;have HU:=B0 hu;clear hu;go_wp2_with fail;refine(HD2.out u w1 HU.out.1).mono ?_;rintro e w2 ⟨rfl,hx2⟩;obtain⟨f0,f1,f2,f3,f4,f5,f6,f7⟩:=Zd (Y5 (hx1.trans hx2));have hxw:=(hx1.trans hx2).before.before;clear hx1 hx2;go_wp2_with fail;refine R1 (Ze results81 rfl (Zf f7) rfl) rfl ?_;rw[HF.out];rw[HT.out];exact FG
 ·have HF:Hid (res=none):=B0 (by rw[HR.out,D0 he]);have z:(er !=0)=true:=(by simp[he]);have zd:decide (er=0)=false:=D1 he;clear HR he;go_enter func81,ntmps81;go_wp2_with fail;refine(HW.out _ Xf).mono ?_;rintro e w1 ⟨u,rfl,hu,hx1⟩;have HU:=B0 hu;clear hu;go_wp2_with fail;refine(HD2.out u w1 HU.out.1).mono ?_;rintro e w2 ⟨rfl,hx2⟩;obtain⟨f0,f1,f2,f3,f4,f5,f6,f7⟩:=Zd (Y5 (hx1.trans hx2));have hxw:=(hx1.trans hx2).before.before;clear hx1 hx2;go_wp2_with fail;refine R1 (Ze results81 rfl (Zf f7) rfl) rfl ?_;rw[HF.out];exact FH
theorem nR (v:Value) (m:List Bool) (w:World) (hv:SlK w v (m.map encT)) (hm:m.length<=1000000):
 Calls prog 36 #[.agg #[v]] w (RdR (Ln.rTwo 5 m) w):=by
 have HW:=B0 (fun w' (h:Ext w w')=>FF 5 v m w' (hv.ext h) hm)
 obtain⟨-,a,c,rfl,-⟩:=hv
 rw[N0]at HW⊢
 generalize m.length=ml at*
 generalize Ln.rTwo 5 m=res at*
 go_enter func36,ntmps36
 go_wp2_with fail
 refine(HW.out _ Xf).mono ?_
 rintro e w1 ⟨⟨k,t,ad⟩,rfl,ho,hx1⟩
 have HO:=B0 ho
 obtain⟨f0,f1,f2,f3,f4,f5,f6,f7⟩:=Zd (Y5 hx1)
 have hxw:=hx1.before.before
 unfold linV
 dsimp only
 clear hx1 ho
 go_wp2_with fail
 refine R1 (Ze results36 rfl (Zf f7) rfl) rfl ?_
 exact⟨(k,t,ad),rfl,HO.out,Zu hxw (D3 _) _ _ _⟩
theorem nS (v:Value) (m:List Bool) (w:World) (hv:SlK w v (m.map encT)) (hm:m.length<=1000000):
 Calls prog 37 #[.agg #[v]] w (RdR (Ln.rTwo 6 m) w):=by
 have HW:=B0 (fun w' (h:Ext w w')=>FF 6 v m w' (hv.ext h) hm)
 obtain⟨-,a,c,rfl,-⟩:=hv
 rw[N0]at HW⊢
 generalize m.length=ml at*
 generalize Ln.rTwo 6 m=res at*
 go_enter func37,ntmps37
 go_wp2_with fail
 refine(HW.out _ Xf).mono ?_
 rintro e w1 ⟨⟨k,t,ad⟩,rfl,ho,hx1⟩
 have HO:=B0 ho
 obtain⟨f0,f1,f2,f3,f4,f5,f6,f7⟩:=Zd (Y5 hx1)
 have hxw:=hx1.before.before
 unfold linV
 dsimp only
 clear hx1 ho
 go_wp2_with fail
 refine R1 (Ze results37 rfl (Zf f7) rfl) rfl ?_
 exact⟨(k,t,ad),rfl,HO.out,Zu hxw (D3 _) _ _ _⟩
theorem nT (v:Value) (m:List Bool) (w:World) (hv:SlK w v (m.map encT)) (hm:m.length<=1000000):
 Calls prog 38 #[.agg #[v]] w (RdR (Ln.rTwo 7 m) w):=by
 have HW:=B0 (fun w' (h:Ext w w')=>FF 7 v m w' (hv.ext h) hm)
 obtain⟨-,a,c,rfl,-⟩:=hv
 rw[N0]at HW⊢
 generalize m.length=ml at*
 generalize Ln.rTwo 7 m=res at*
 go_enter func38,ntmps38
 go_wp2_with fail
 refine(HW.out _ Xf).mono ?_
 rintro e w1 ⟨⟨k,t,ad⟩,rfl,ho,hx1⟩
 have HO:=B0 ho
 obtain⟨f0,f1,f2,f3,f4,f5,f6,f7⟩:=Zd (Y5 hx1)
 have hxw:=hx1.before.before
 unfold linV
 dsimp only
 clear hx1 ho
 go_wp2_with fail
 refine R1 (Ze results38 rfl (Zf f7) rfl) rfl ?_
 exact⟨(k,t,ad),rfl,HO.out,Zu hxw (D3 _) _ _ _⟩
theorem nU (v:Value) (m:List Bool) (w:World) (hv:SlK w v (m.map encT)) (hm:m.length<=1000000):
 Calls prog 34 #[.agg #[v]] w (RdR (Ln.rEan m) w):=by
 have HW:=B0 (fun w' (h:Ext w w')=>iG v m w' (hv.ext h) hm)
 obtain⟨res,hres⟩:∃res,res=Ln.rEan m:=⟨_,rfl⟩
 rw[<-hres]
 unfold Ln.rEan at hres
 obtain⟨⟨⟨k,t,ad⟩,er⟩,hd⟩:∃r,r=Ea.dec m:=⟨_,rfl⟩
 rw[<-hd]at HW hres
 have HR:=B0 hres
 obtain⟨-,a,c,rfl,-⟩:=hv
 rw[N0]at HW⊢
 generalize m.length=ml at*
 unfold gotV linV at HW
 dsimp only at HW
 obtain⟨bb,hbb⟩:∃bb,bb=(er==0):=⟨_,rfl⟩
 have HF:Hid (bb=res.isSome∧(res.isSome=true->res=some (k,t,ad))):=B0 (by rw[hbb,HR.out];dsimp only;by_cases he:er=0;(·rw[G0 he];simp[he]);·rw[D0 he];simp[he])
 have hbe:=hbb.symm
 clear hd hres hbb HR
 go_enter func34,ntmps34
 go_wp2_with fail
 refine(HW.out _ Xf).mono ?_
 rintro e w1 ⟨rfl,hx1⟩
 obtain⟨f0,f1,f2,f3,f4,f5,f6,f7⟩:=Zd (Y5 hx1)
 have hxw:=hx1.before.before
 clear hx1
 go_wp2_with fail
 refine R1 (Ze results34 rfl (Zb (Zf f7) ((Ext.refl _).alloc _)) rfl) rfl ?_
 exact⟨(k,t,ad),by rw[HF.out.1];rfl,HF.out.2,(Zu hxw (D3 _) _ _ _).alloc _⟩
end
end Go.Proofs.YtbngggoccndefaaGreatDoor
