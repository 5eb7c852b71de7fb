/-
  Laid.
-/
import Derived.Test.YtbngggoccndefaaGreatDoorRt33
set_option maxHeartbeats 8000000
set_option maxRecDepth 100000
set_option linter.all false
section
namespace Go.Proofs.YtbngggoccndefaaGreatDoor
open Go.Proofs.Tryz
open Go.RowKit
theorem PU (x:Nat) (hx:x<128):(Utf8.encode (x:Int)).data.toList=[UInt8.ofNat x]:=by
 have hv:Utf8.valid (x:Int)=true:=by unfold Utf8.valid;exact E1
 unfold Utf8.encode;simp[hv,hx]
def scan (al:List Nat) (m:List Bool):Option (Nat×Nat):=al.foldl (fun acc t=>match Ea.lookT t m with
 |some d=>some (d,t)
 |none=>acc) none
theorem zR (al:List Nat) (t:Nat) (m:List Bool):scan (al++[t]) m=match Ea.lookT t m with
 |some d=>some (d,t)
 |none=>scan al m:=by unfold scan;rw[V9];rfl
theorem eZ (m:List Bool):scan [0,1] m=Ea.look true 0 m:=by unfold scan Ea.look;simp only[I3,YY,R4];cases Ea.lookT 1 m<;>cases Ea.lookT 0 m<;>rfl
theorem fA (t:Nat) (m:List Bool):scan [t] m=Ea.look false t m:=by unfold scan Ea.look;simp only[I3,YY,PM,I7];cases Ea.lookT t m<;>rfl
def alOf (both:Bool) (t:Nat):List Nat:=if both=true then [0,1]else [t]
theorem fB (both:Bool) (t:Nat) (ht:both=true->t=0) (m:List Bool):scan (alOf both t) m=Ea.look both t m:=by
 cases both with
 |true=>rw[ht rfl];exact eZ m
 |false=>exact fA t m
def scD (o:Option (Nat×Nat)):Int:=match o with
 |some (d,_)=>(d:Int)
 |none=> -1
def scT (o:Option (Nat×Nat)):Int:=match o with
 |some (_,t)=>65+(t:Int)
 |none=>0
theorem fC {al:List Nat} (ha:∀t∈al,t<3) {m:List Bool} {d t:Nat} (h:scan al m=some (d,t)):d<10∧t<3:=by
 have key:∀(al:List Nat) (acc:Option (Nat×Nat)),(∀t∈al,t<3)->(∀d t,acc=some (d,t)->d<10∧t<3)->∀d t,al.foldl (fun acc t=>match Ea.lookT t m with
  |some d=>some (d,t)
  |none=>acc) acc=some (d,t)->d<10∧t<3:=by
  intro al
  induction al with
  |nil=>intro acc _ h d t e;exact h d t e
  |cons u al ih=>
   intro acc h1 h2 d t e
   refine ih _ (fun t ht=>h1 t (C1 _ ht)) ?_ d t e
   intro d t e
   dsimp only at e
   cases hl:Ea.lookT u m with
   |none=>simp only[hl]at e;exact h2 d t e
   |some d0=>simp only[hl]at e;cases e;exact⟨(Ea.lookT_some (h1 u (B1 ..)) hl).1,h1 u (B1 ..)⟩
 exact key al none ha (fun d t h=>by cases h) d t h
def recV (o:Option (List UInt8×List Nat)):Value:=match o with
 |some (l,u)=>.tuple #[.string (Ea.bS l),.string (Ea.bS (Ea.sS u)),.bool true]
 |none=>.tuple #[.string ⟨#[]⟩,.string ⟨#[]⟩,.bool false]
theorem ZR (both:Bool) (t n:Nat) (sl:List Bool) (s al:ByteArray) (hs:s.data.toList=Ea.mS sl) (hn:sl.length=7*n) (hn12:n<=12) (ht:t<3) (hb:both=true->t=0) (hal:al.data.toList=Ea.sS (alOf both t)) (w:World):
 Calls prog 254 #[.string s,.string al] w fun e w'=>e=.returned (recV (Ea.rcg both t 0 n sl))∧Ext w w':=by
 obtain⟨R,hR⟩:∃R,Ea.rcg both t 0 n sl=R:=⟨_,rfl⟩
 rw[hR]
 have HR0:Hid (R=Ea.sofar (Ea.rcg both t 0 n sl) [] []):=B0 (by rw[Ea.sofar_nil,hR])
 have HSC:=B0 (fB both t hb)
 have HAL:=B0 hal
 have hA3:∀u∈alOf both t,u<3:=by unfold alOf;split;(·simp);·simpa using ht
 have HA3:=B0 hA3
 have hAsz:al.size=(alOf both t).length:=by rw[Zc hal,Ea.sS_len]
 have hAl2:al.size<=2:=by rw[hAsz];unfold alOf;split<;>simp
 have HASZ:=B0 hAsz
 clear hal hA3 hAsz
 generalize alOf both t=A at*
 go_enter func254,ntmps254
 go_wp2_with fail
 go_loopw [0,4,5] (fun v0 v4 v5 wr=>∃(k:Nat) (S D T:ByteArray) (ds:List UInt8) (us:List Nat),k<=n∧v0=.string S∧v4=.string D∧v5=.string T∧Hid (S.data.toList=Ea.mS (sl.drop (7*k)))∧Hid (D.data.toList=ds)∧Hid (T.data.toList=Ea.sS us)∧D.size=k∧T.size=k∧Hid (R=Ea.sofar (Ea.rcg both t 0 (n-k) (sl.drop (7*k))) ds us)∧Ext w wr) (fun v0 _ _ _=>match v0 with| .string S=>S.size|_=>0)
 case atStart=>exact⟨0,s,⟨#[]⟩,⟨#[]⟩,[],[],U0 _,rfl,rfl,rfl,B0 (by rw[RD,I4];exact hs),B0 rfl,B0 rfl,rfl,rfl,B0 (by rw[RD,I4,YD];exact HR0.out),Ext.refl w⟩
 case round=>
  obtain⟨k,S,D,T,ds,us,hk,rfl,rfl,rfl,HS,HD,HT,hDs,hTs,HSO,hxr⟩:=hrel;have hSs:S.size=7*(n-k):=(by rw[Zc HS.out,Ea.mS_len,L2,hn];omega);by_cases hlt:k<n
  ·have hS7:7<=S.size:=C0;have hSl:S.size<=84:=C0;have hne:S.toList.isEmpty=false:=(by rw[G2,UC];intro h;rw[<-Za,h]at hS7;simp at hS7);obtain⟨m,hm⟩:∃m,(sl.drop (7*k)).take 7=m:=⟨_,rfl⟩;have HP7:Hid (S.extract 0 7=Ea.bS (Ea.mS m)):=B0 (by apply Z7;rw[Zz,HS.out,Ea.mS_take,hm];rfl);clear hSs;go_wp2_with fail;go_loopw [18,7,8] (fun v18 v7 v8 wq=>∃j:Nat,j<=al.size∧v18=.int .i64 (j:Int)∧v7=.int .i64 (scD (scan (A.take j) m))∧v8=.int .u8 (scT (scan (A.take j) m))∧Ext w wq) (fun v18 _ _ _=>al.size-(intOf v18).toNat);(case atStart=>exact⟨0,U0 _,rfl,rfl,rfl,Xf⟩);case round=>
    clear hxr;obtain⟨j,hj,rfl,rfl,rfl,hxr⟩:=hrel;by_cases hja:j<al.size
    ·obtain⟨u,hu⟩:∃u,A[j]? =some u:=⟨_,P0 (by rw[<-HASZ.out];exact hja)⟩
     have hu3:=HA3.out u (I1 hu)
     have hau:al[j].toNat=65+u:=by have h1:al.data.toList[j]? =some al[j]:=P0 (by rw[Za];exact hja);rw[HAL.out]at h1;unfold Ea.sS at h1;rw[X2,hu]at h1;have h2:Ea.cS u=al[j]:=D9;rw[<-h2];unfold Ea.cS;exact E1
     have HTK:Hid (A.take (j+1)=A.take j++[u]):=B0 (by obtain⟨h1,h2⟩:=J1.1 hu;rw[NH h1,h2])
     have HDR:Hid (∀w,Calls prog 181 #[.int .u8 (65+(u:Int))] w fun e w'=>e=.returned (arrV (Ea.rowB u))∧Ext w w'):=B0 (fun w=>qV u hu3 w)
     have hRl:=xR hu3
     have HRI:=B0 (Ea.row_idx u m)
     have HLT:Hid (∀d,Ea.lookT u m=some d->d<10):=B0 (fun d h=>(Ea.lookT_some hu3 h).1)
     unfold arrV at HDR
     obtain⟨Q,hQ⟩:∃Q,((Ea.rowB u).map Value.string).toArray=Q:=⟨_,rfl⟩
     have hQs:Q.size=10:=by rw[<-hQ];simp[hRl]
     have HQ1:Hid (Q.all (·.oneCell')=true):=B0 JK
     have HQd:Hid (∀i,i<10->Q[i]? =some (.string ((Ea.rowB u).getD i ByteArray.empty))):=B0 (fun i hi=>by rw[<-hQ];simp only[VT,X2];rw[P0 WL,A1,P0 WL];rfl)
     have HRL:=B0 hRl
     rw[hQ]at HDR
     clear hu hQ hRl
     go_wp2_with fail
     refine(HDR.out _).mono ?_
     rintro e w4 ⟨rfl,hx4⟩
     have hst:=ZS Q hQs HQ1.out w4
     have HNC:=B0 (fun i hi=>E9 Q 210 w4 (HQd.out i hi))
     go_wp2_with fail
     obtain⟨w5,hw5⟩:∃w5,w4.alloc (.cells Q 210)=w5:=⟨_,rfl⟩
     have hsz:w4.heap.size<w5.heap.size:=by rw[<-hw5];simp
     have hx5:Ext w w5:=by rw[<-hw5];exact(hxr.trans hx4).alloc _
     rw[hw5]at HNC⊢
     have HIX:=B0 (fun(x:Zr w5)=>Tryz.slices_Index_string w4.heap.size 0 10 10 (Ea.rowB u) (S.extract 0 7) x.at' TA C0 (fun i hi=>by rw[P3,x.ext.cell (p:=⟨w4.heap.size,i,none⟩) hsz];exact HNC.out i JL))
     rw[HP7.out,show(Ea.rowB u).take 10=Ea.rowB u from P1 TA,HRI.out,<-HP7.out]at HIX
     clear hst hw5 HNC HRI
     cases hlk:Ea.lookT u m with
     |none=>rw[hlk]at HIX;simp only[Ea.plcO]at HIX;have HSN:Hid (scan (A.take (j+1)) m=scan (A.take j) m):=B0 (by rw[HTK.out,zR,hlk]);clear hlk HLT hau HTK;refine T6 (C:=fun w'=>∃x:Zr w5,w'=x.at') M0 M0 (Zr.drawn _) ?_;(try dsimp only);(repeat(first|go_big_quiet_step ((go_at_call 252;with_reducible exact Zp ((HIX.out _).mono fun _ _ h=>⟨h.1,h.2▸Ext.refl _⟩)))|quiet_step ((go_at_call 252;with_reducible exact Zp ((HIX.out _).mono fun _ _ h=>⟨h.1,h.2▸Ext.refl _⟩)))));refine U6 ?_;intro _ hx0;obtain⟨x0,hx0⟩:=hx0;subst hx0;obtain⟨w8,hx8⟩:=x0;(try dsimp only);go_wp2;go_roundw;(case rel=>exact⟨j+1,by omega,by go_num,by rw[HSN.out],by rw[HSN.out],hx5.trans hx8⟩);case measure=>exact QD
     |some d=>have hd10:=HLT.out d hlk;rw[hlk]at HIX;simp only[Ea.plcO]at HIX;have HSN:Hid (scan (A.take (j+1)) m=some (d,u)):=B0 (by rw[HTK.out,zR,hlk]);clear hlk HLT HTK;refine T6 (C:=fun w'=>∃x:Zr w5,w'=x.at') M0 M0 (Zr.drawn _) ?_;(try dsimp only);(repeat(first|go_big_quiet_step ((go_at_call 252;with_reducible exact Zp ((HIX.out _).mono fun _ _ h=>⟨h.1,h.2▸Ext.refl _⟩)))|quiet_step ((go_at_call 252;with_reducible exact Zp ((HIX.out _).mono fun _ _ h=>⟨h.1,h.2▸Ext.refl _⟩)))));refine U6 ?_;intro _ hx0;obtain⟨x0,hx0⟩:=hx0;subst hx0;obtain⟨w8,hx8⟩:=x0;(try dsimp only);go_wp2;go_quiet (fail);go_wp2;go_roundw;(case rel=>exact⟨j+1,by omega,by go_num,by rw[HSN.out];rfl,by rw[HSN.out];rfl,(hx5.trans hx8).drewN _⟩);case measure=>exact QD
    ·obtain rfl:j=al.size:=by omega
     rw[show A.take al.size=A by rw[HASZ.out,E5]]at*
     rw[HSC.out]at*
     have HRC:=B0 (fun d u (h:Ea.look both t m=some (d,u))=>fC HA3.out (by rw[HSC.out];exact h))
     obtain⟨q,hq⟩:∃q,n-k=q+1:=⟨n-k-1,by omega⟩
     rw[hq]at HSO
     clear hj hja
     cases hlk:Ea.look both t m with
     |none=>have HRN:Hid (R=none):=B0 (by rw[HSO.out,Ea.rcg_none (by rw[hm];exact hlk)];rfl);simp only[scD,scT];clear hlk hm hq;go_wp2;go_ret3;exact⟨by rw[HRN.out];rfl,hxr⟩
     |some p=>obtain⟨d,u⟩:=p;obtain⟨hd10,hu3⟩:=HRC.out d u hlk;simp only[scD,scT];have HSO2:Hid (R=Ea.sofar (Ea.rcg both t 0 (n-(k+1)) (sl.drop (7*(k+1)))) (ds++[Ea.chr d]) (us++[u])):=B0 (by rw[HSO.out,Ea.rcg_some (by rw[hm];exact hlk),show n-(k+1)=q by omega,Y3,show 7*k+(7+0)=7*(k+1) by omega]);have hc1:(Utf8.encode (48+(d:Int))).data.toList=[Ea.chr d]:=zS;have hc2:(Utf8.encode (65+(u:Int))).data.toList=[Ea.cS u]:=(by rw[show(65+(u:Int))=((65+u:Nat):Int) by omega];exact PU (65+u) C0);have hz1:(Utf8.encode (48+(d:Int))).size=1:=Zc hc1;have hz2:(Utf8.encode (65+(u:Int))).size=1:=Zc hc2;obtain⟨CD,hCD⟩:∃CD,Utf8.encode (48+(d:Int))=CD:=⟨_,rfl⟩;obtain⟨CT,hCT⟩:∃CT,Utf8.encode (65+(u:Int))=CT:=⟨_,rfl⟩;rw[hCD]at hc1 hz1;rw[hCT]at hc2 hz2;(have hr1:∀w,(convert 21 9 (.int .i32 (48+(d:Int)))).run prog w=.ok (.string CD) w:=fun w=>by rw[<-hCD];exact TC w _ _ _ _ M0 underlying9);(have hr2:∀w,(convert 21 9 (.int .i32 (65+(u:Int)))).run prog w=.ok (.string CT) w:=fun w=>by rw[<-hCT];exact TC w _ _ _ _ M0 underlying9);have HD2:Hid ((D++CD:ByteArray).data.toList=ds++[Ea.chr d]):=B0 (by rw[X3,C4,HD.out,hc1]);have HT2:Hid ((T++CT:ByteArray).data.toList=Ea.sS (us++[u])):=B0 (by rw[X3,C4,HT.out,Ea.sS_app,hc2];rfl);have HS2:Hid ((S.extract 7 S.size).data.toList=Ea.mS (sl.drop (7*(k+1)))):=B0 (by rw[ZG,HS.out,Ea.mS_drop,Y3,show 7*k+7=7*(k+1) by omega]);have hDle:D.size<=12:=C0;have hTle:T.size<=12:=C0;have HDZ:Hid (D.size=k∧T.size=k):=B0 ⟨hDs,hTs⟩;clear hlk hm hq hc1 hc2 hDs hTs hCD hCT;go_wp2;go_roundw;(case rel=>exact⟨k+1,_,_,_,_,_,by omega,rfl,rfl,rfl,HS2,HD2,HT2,by rw[K9,hz1,HDZ.out.1],by rw[K9,hz2,HDZ.out.2],HSO2,hxr⟩);case measure=>exact E1
  ·obtain rfl:k=n:=C0;have HRE:Hid (R=some (ds,us)):=B0 (by rw[HSO.out,O3];exact Ea.sofar_end ds us);have hS0:S.toList=[]:=(by rw[G2];exact V2 (by rw[Za,hSs,O3]));have hS1:S.toList.isEmpty=true:=(by rw[hS0];rfl);have HE:Hid (Value.string D=.string (Ea.bS ds)∧Value.string T=.string (Ea.bS (Ea.sS us))):=B0 (by rw[<-HD.out,<-HT.out,Ea.bS_of,Ea.bS_of];exact⟨rfl,rfl⟩);clear hlt hk hSs;go_wp2;go_ret3;exact⟨by rw[HRE.out];simp only[recV];rw[<-HE.out.1,<-HE.out.2];rfl,hxr⟩
end Go.Proofs.YtbngggoccndefaaGreatDoor
namespace Go.Proofs.YtbngggoccndefaaGreatDoor
open Go.Proofs.Tryz
open Go.RowKit
theorem TD (both:Bool) (t:Nat):∀(n:Nat) (s:List Bool),Ea.rcg both t 0 n (s.take (7*n))=Ea.rcg both t 0 n s:=by
 intro n
 induction n with
 |zero=>intro s;rfl
 |succ n ih=>intro s;have e:7*(n+1)=7+7*n:=C0;rw[Ea.rcg,Ea.rcg,XP,show min 7 (7*(n+1))=7 by omega];have e2:(s.take (7*(n+1))).drop (7+0)=(s.drop (7+0)).take (7*n):=(by rw[UD];congr 1);rw[e2,ih]
theorem PV {both:Bool} {t gap:Nat}:∀ {n:Nat} {s:List Bool} {l:List UInt8} {u:List Nat},Ea.rcg both t gap n s=some (l,u)->l.length=n:=by
 intro n
 induction n with
 |zero=>intro s l u h;cases h;rfl
 |succ n ih=>
  intro s l u h
  rw[Ea.rcg]at h
  cases h1:Ea.look both t (s.take 7)with
  |none=>rw[h1]at h;cases h
  |some p=>
   rw[h1]at h
   dsimp only at h
   cases h2:Ea.rcg both t gap n (s.drop (7+gap))with
   |none=>rw[h2]at h;cases h
   |some q=>rw[h2]at h;cases h;simp[ih h2]
theorem hasP (s p:ByteArray) (pl sl:List Bool) (hs:s.data.toList=Ea.mS sl) (hp:p.data.toList=Ea.mS pl) (w:World):Calls prog 177 #[.string s,.string p] w fun e w'=>e=.returned (.bool (decide (sl.take pl.length=pl)))∧w=w':=by refine(Tryz.strings_HasPrefix s p w).mono ?_;rintro e w' ⟨rfl,rfl⟩;exact⟨by rw[hs,hp,Ea.mS_prefix],rfl⟩
theorem hasS (s p:ByteArray) (pl sl:List Bool) (hs:s.data.toList=Ea.mS sl) (hp:p.data.toList=Ea.mS pl) (hl:pl.length<=sl.length) (hz:s.size<=9223372036854775807) (w:World):Calls prog 253 #[.string s,.string p] w fun e w'=>e=.returned (.bool (decide (sl.drop (sl.length-pl.length)=pl)))∧w=w':=by refine(Tryz.strings_HasSuffix s p w hz).mono ?_;rintro e w' ⟨rfl,rfl⟩;exact⟨by rw[hs,hp,Ea.mS_suffix _ _ hl],rfl⟩
def halv (both:Bool) (t n:Nat) (sl:List Bool):(List UInt8×List Nat)×Int:=
 if sl.take 3≠Ea.gd then(([],[]),19)
 else if sl.drop (sl.length-3)≠Ea.gd then(([],[]),20)
 else match Ea.rcg both t 0 n (sl.drop 3),Ea.rcg false 2 0 n (sl.drop (7*n+8))with
  |some (l,u),some (r,_)=>if(sl.drop (7*n+3)).take 5=Ea.md then((l++r,u),0)else(([],[]),18)
  |_,_=>(([],[]),18)
def halV (r:(List UInt8×List Nat)×Int):Value:=.tuple #[.string (Ea.bS r.1.1),.string (Ea.bS (Ea.sS r.1.2)),.int .i64 r.2]
theorem fD (s:ByteArray) (sl:List Bool) (hs:s.data.toList=Ea.mS sl) (hW:sl.length=95) (w:World):
 Calls prog 251 #[.string s,.int .i64 6,.string ⟨#[65,66]⟩] w fun e w'=>e=.returned (halV (halv true 0 6 sl))∧Ext w w':=by
 have hsz:s.size=95:=JM
 have HX:=B0 (halv.eq_1 true 0 6 sl)
 rw[hW]at HX
 have HP:=B0 (fun w=>hasP s ⟨#[49,48,49]⟩ Ea.gd sl hs rfl w)
 have HQ:=B0 (fun w=>hasS s ⟨#[49,48,49]⟩ Ea.gd sl hs rfl (by rw[hW];decide) C0 w)
 rw[show Ea.gd.length=3 from rfl]at HP HQ
 rw[hW]at HQ
 obtain⟨J,hJ⟩:∃J,s.extract 3 92=J:=⟨_,rfl⟩
 have hJl:J.data.toList=Ea.mS ((sl.drop 3).take 89):=JN
 have hJs:J.size=89:=zT
 have HJ:=B0 hJ
 have c1:(J.extract 0 42).data.toList=Ea.mS ((sl.drop 3).take 42):=by rw[Zz,hJl,Ea.mS_take,XP];rfl
 have c2:(J.extract 47 89).data.toList=Ea.mS ((sl.drop 50).take 42):=PW
 have c3:(J.extract 42 47).data.toList=Ea.mS ((sl.drop 45).take 5):=PW
 have HL:=B0 (ZR true 0 6 ((sl.drop 3).take 42) (J.extract 0 42) ⟨#[65,66]⟩ c1 TE C0 C0 (fun _=>rfl) rfl)
 have HR:=B0 (ZR false 2 6 ((sl.drop 50).take 42) (J.extract 47 89) ⟨#[67]⟩ c2 TE C0 C0 (fun h=>by cases h) rfl)
 rw[TD true 0 6 (sl.drop 3)]at HL
 rw[TD false 2 6 (sl.drop 50)]at HR
 have HM:Hid (((J.extract 42 47).toList== [48,49,48,49,48])=decide ((sl.drop 45).take 5=Ea.md)):=B0 zV
 clear hs hW c1 c2 c3 hJl
 by_cases g1:sl.take 3=Ea.gd
 ·rw[D0 (fun h=>h g1)]at HX;rw[F1 g1]at HP;clear g1;by_cases g2:sl.drop 92=Ea.gd
  ·rw[D0 (fun h=>h g2)]at HX
   rw[F1 g2]at HQ
   clear g2
   cases h1:Ea.rcg true 0 0 6 (sl.drop 3)with
   |none=>
    rw[h1]at HX HL
    have HN:Hid (halv true 0 6 sl=(([],[]),18)):=B0 (by rw[HX.out])
    clear HX
    generalize halv true 0 6 sl=res at*
    cases h2:Ea.rcg false 2 0 6 (sl.drop 50)with
    |none=>rw[h2]at HR;exact Qk
    |some q=>obtain⟨r,v⟩:=q;rw[h2]at HR;exact Qk
   |some p=>
    obtain⟨l,u⟩:=p
    cases h2:Ea.rcg false 2 0 6 (sl.drop 50)with
    |none=>rw[h1]at HX HL;rw[h2]at HX HR;have HN:Hid (halv true 0 6 sl=(([],[]),18)):=B0 (by rw[HX.out]);clear HX;generalize halv true 0 6 sl=res at*;exact Qk
    |some q=>obtain⟨r,v⟩:=q;have hl:=PV h1;have hr:=PV h2;rw[h1]at HX HL;rw[h2]at HX HR;have bl:(Ea.bS l).size=6:=(by rw[Zc (Ea.bS_list l),hl]);have br:(Ea.bS r).size=6:=(by rw[Zc (Ea.bS_list r),hr]);have HAP:Hid (Ea.bS l++Ea.bS r=Ea.bS (l++r)):=B0 (Z7 JJ);simp only[recV]at HL HR;cases hm:((J.extract 42 47).toList== [48,49,48,49,48]);(·have hmm:=HM.out;rw[hm]at hmm;have HN:Hid (halv true 0 6 sl=(([],[]),18)):=B0 zW;clear HX hmm;generalize halv true 0 6 sl=res at*;subst hJ;clear h1 h2 HM hl hr;exact Qd);·have hmm:=HM.out;rw[hm]at hmm;have HN:Hid (halv true 0 6 sl=((l++r,u),0)):=B0 zX;clear HX hmm;generalize halv true 0 6 sl=res at*;exact QU
  ·rw[G0 g2]at HX;rw[D1 g2]at HQ;generalize halv true 0 6 sl=res at*;exact zY
 ·rw[G0 g1]at HX;rw[D1 g1]at HP;generalize halv true 0 6 sl=res at*;exact zZ
theorem fF (s:ByteArray) (sl:List Bool) (hs:s.data.toList=Ea.mS sl) (hW:sl.length=67) (w:World):
 Calls prog 251 #[.string s,.int .i64 4,.string ⟨#[65]⟩] w fun e w'=>e=.returned (halV (halv false 0 4 sl))∧Ext w w':=by
 have hsz:s.size=67:=JM
 have HX:=B0 (halv.eq_1 false 0 4 sl)
 rw[hW]at HX
 have HP:=B0 (fun w=>hasP s ⟨#[49,48,49]⟩ Ea.gd sl hs rfl w)
 have HQ:=B0 (fun w=>hasS s ⟨#[49,48,49]⟩ Ea.gd sl hs rfl (by rw[hW];decide) C0 w)
 rw[show Ea.gd.length=3 from rfl]at HP HQ
 rw[hW]at HQ
 obtain⟨J,hJ⟩:∃J,s.extract 3 64=J:=⟨_,rfl⟩
 have hJl:J.data.toList=Ea.mS ((sl.drop 3).take 61):=JN
 have hJs:J.size=61:=zT
 have HJ:=B0 hJ
 have c1:(J.extract 0 28).data.toList=Ea.mS ((sl.drop 3).take 28):=by rw[Zz,hJl,Ea.mS_take,XP];rfl
 have c2:(J.extract 33 61).data.toList=Ea.mS ((sl.drop 36).take 28):=PW
 have c3:(J.extract 28 33).data.toList=Ea.mS ((sl.drop 31).take 5):=PW
 have HL:=B0 (ZR false 0 4 ((sl.drop 3).take 28) (J.extract 0 28) ⟨#[65]⟩ c1 TE C0 C0 (fun _=>rfl) rfl)
 have HR:=B0 (ZR false 2 4 ((sl.drop 36).take 28) (J.extract 33 61) ⟨#[67]⟩ c2 TE C0 C0 (fun h=>by cases h) rfl)
 rw[TD false 0 4 (sl.drop 3)]at HL
 rw[TD false 2 4 (sl.drop 36)]at HR
 have HM:Hid (((J.extract 28 33).toList== [48,49,48,49,48])=decide ((sl.drop 31).take 5=Ea.md)):=B0 zV
 clear hs hW c1 c2 c3 hJl
 by_cases g1:sl.take 3=Ea.gd
 ·rw[D0 (fun h=>h g1)]at HX;rw[F1 g1]at HP;clear g1;by_cases g2:sl.drop 64=Ea.gd
  ·rw[D0 (fun h=>h g2)]at HX
   rw[F1 g2]at HQ
   clear g2
   cases h1:Ea.rcg false 0 0 4 (sl.drop 3)with
   |none=>
    rw[h1]at HX HL
    have HN:Hid (halv false 0 4 sl=(([],[]),18)):=B0 (by rw[HX.out])
    clear HX
    generalize halv false 0 4 sl=res at*
    cases h2:Ea.rcg false 2 0 4 (sl.drop 36)with
    |none=>rw[h2]at HR;exact Qj
    |some q=>obtain⟨r,v⟩:=q;rw[h2]at HR;exact Qj
   |some p=>
    obtain⟨l,u⟩:=p
    cases h2:Ea.rcg false 2 0 4 (sl.drop 36)with
    |none=>rw[h1]at HX HL;rw[h2]at HX HR;have HN:Hid (halv false 0 4 sl=(([],[]),18)):=B0 (by rw[HX.out]);clear HX;generalize halv false 0 4 sl=res at*;exact Qj
    |some q=>obtain⟨r,v⟩:=q;have hl:=PV h1;have hr:=PV h2;rw[h1]at HX HL;rw[h2]at HX HR;have bl:(Ea.bS l).size=4:=(by rw[Zc (Ea.bS_list l),hl]);have br:(Ea.bS r).size=4:=(by rw[Zc (Ea.bS_list r),hr]);have HAP:Hid (Ea.bS l++Ea.bS r=Ea.bS (l++r)):=B0 (Z7 JJ);simp only[recV]at HL HR;cases hm:((J.extract 28 33).toList== [48,49,48,49,48]);(·have hmm:=HM.out;rw[hm]at hmm;have HN:Hid (halv false 0 4 sl=(([],[]),18)):=B0 zW;clear HX hmm;generalize halv false 0 4 sl=res at*;subst hJ;clear h1 h2 HM hl hr;exact Qd);·have hmm:=HM.out;rw[hm]at hmm;have HN:Hid (halv false 0 4 sl=((l++r,u),0)):=B0 zX;clear HX hmm;generalize halv false 0 4 sl=res at*;exact QU
  ·rw[G0 g2]at HX;rw[D1 g2]at HQ;generalize halv false 0 4 sl=res at*;exact zY
 ·rw[G0 g1]at HX;rw[D1 g1]at HP;generalize halv false 0 4 sl=res at*;exact zZ
end Go.Proofs.YtbngggoccndefaaGreatDoor
namespace Go.Proofs.YtbngggoccndefaaGreatDoor
open Go.Proofs.Tryz
open Go.RowKit
def linV (k:Int) (t a:List UInt8):Value:=.agg #[.int .i64 k,.string (Ea.bS t),.string (Ea.bS a)]
def symV (r:(Int×List UInt8)×Int):Value:=.tuple #[linV r.1.1 r.1.2 [],.int .i64 r.2]
theorem PX {both:Bool} {n:Nat} {sl:List Bool} {l:List UInt8} {u:List Nat} (h:halv both 0 n sl=((l,u),0)) (hl:14*n+8<=sl.length):Ea.digs l=true∧l.length=2*n∧(∀x∈u,x<3)∧u.length=n:=by
 unfold halv at h
 split at h
 ·cases h
 split at h
 ·cases h
 cases h1:Ea.rcg both 0 0 n (sl.drop 3)with
 |none=>rw[h1]at h;cases h
 |some p=>
  obtain⟨l1,u1⟩:=p
  cases h2:Ea.rcg false 2 0 n (sl.drop (7*n+8))with
  |none=>rw[h1,h2]at h;cases h
  |some q=>obtain⟨l2,u2⟩:=q;rw[h1,h2]at h;dsimp only at h;split at h;(·cases h;obtain⟨_,a2,a3,a4,a5⟩:=Ea.rcg_inv both 0 C0 n _ _ _ h1 E7;obtain⟨_,b2,b3,b4,b5⟩:=Ea.rcg_inv false 2 C0 n _ _ _ h2 E7;exact⟨by rw[Ea.digs_app];exact⟨a4,b4⟩,by rw[O0,a2,b2];omega,fun x hx=>Ea.may_lt C0 (a5 x hx),a3⟩);·cases h
theorem JO {k:Int} {l:List UInt8} (h1:Ea.size k≠0) (h2:Ea.digs l=true) (h3:l.length=Ea.size k) (h4:k=4->l.getD 0 0<=49):Ea.full k l=if Ea.good (if k=4 then Ea.exp8 l else l)then 0 else 8:=by rw[xU,D0 h1,D0 (by rw[h2];simp),D0 (fun h=>h h3),D0 (fun h=>h.2 (h4 h.1))]
def I8 (h:(List UInt8×List Nat)×Int):(Int×List UInt8)×Int:=
 if h.2≠0 then((0,[]),h.2)else match Ea.find13 h.1.2 with
  |none=>((0,[]),18)
  |some d=>if Ea.good (Ea.chr d::h.1.1)then(if d=0 then((3,h.1.1),0)else((1,Ea.chr d::h.1.1),0))else((0,[]),8)
theorem yA {d:Nat} (hd:d<10):Ea.chr d=48↔d=0:=by
 have:∀d:Fin 10,Ea.chr d=48↔d.1=0:=by decide
 exact this ⟨d,hd⟩
theorem TF {d:Nat} (hd:d<10):48<=(Ea.chr d).toNat∧(Ea.chr d).toNat<=57:=by unfold Ea.chr;rw[Ea.chr_nat hd];omega
theorem WM {both:Bool} {t n:Nat} {sl:List Bool} (g1:sl.take 3=Ea.gd) (g2:sl.drop (sl.length-3)=Ea.gd) (h:Ea.rcg both t 0 n (sl.drop 3)=none∨Ea.rcg false 2 0 n (sl.drop (7*n+8))=none∨(sl.drop (7*n+3)).take 5≠Ea.md):halv both t n sl=(([],[]),18):=by
 unfold halv
 rw[D0 (fun h=>h g1),D0 (fun h=>h g2)]
 cases h1:Ea.rcg both t 0 n (sl.drop 3)with
 |none=>rfl
 |some p=>
  cases h2:Ea.rcg false 2 0 n (sl.drop (7*n+8))with
  |none=>rfl
  |some q=>rw[h1,h2]at h;exact D0 (h.resolve_left L0 |>.resolve_left L0)
theorem yB {both:Bool} {t n:Nat} {sl:List Bool} {l r:List UInt8} {u v:List Nat} (g1:sl.take 3=Ea.gd) (g2:sl.drop (sl.length-3)=Ea.gd) (h1:Ea.rcg both t 0 n (sl.drop 3)=some (l,u)) (h2:Ea.rcg false 2 0 n (sl.drop (7*n+8))=some (r,v)) (hm:(sl.drop (7*n+3)).take 5=Ea.md):halv both t n sl=((l++r,u),0):=by unfold halv;rw[D0 (fun h=>h g1),D0 (fun h=>h g2),h1,h2];exact G0 hm
theorem fG (sl:List Bool) (hW:sl.length=95):Ea.rdSym 95 sl=I8 (halv true 0 6 sl):=by
 unfold Ea.rdSym;rw[show 95-(Ea.stp 95).length=sl.length-3 by rw[hW];rfl,show Ea.stp 95=Ea.gd from rfl];by_cases g1:sl.take 3=Ea.gd
 ·by_cases g2:sl.drop (sl.length-3)=Ea.gd
  ·rw[D0 (fun h=>h g1),D0 (fun h=>h g2)]
   rw[show Ea.rdK 95 sl=Ea.rd13 sl from rfl]
   unfold Ea.rd13
   cases h1:Ea.rcg true 0 0 6 (sl.drop 3)with
   |none=>rw[WM g1 g2 (.inl h1)];rfl
   |some p=>
    obtain⟨l,u⟩:=p
    cases h2:Ea.rcg false 2 0 6 (sl.drop 50)with
    |none=>rw[WM g1 g2 (.inr (.inl h2))];rfl
    |some q=>
     obtain⟨r,v⟩:=q;dsimp only;by_cases hm:(sl.drop 45).take 5=Ea.md
     ·have hh:=yB g1 g2 h1 h2 hm
      obtain⟨k1,k2,k3,k4⟩:=PX hh C0
      rw[G0 hm,hh]
      unfold I8
      rw[D0 L0]
      dsimp only
      cases hf:Ea.find13 u with
      |none=>rfl
      |some d=>obtain⟨f1,_⟩:=Ea.find13_some hf;rw[H7];dsimp only;have hfull:=JO (k:=1) (l:=Ea.chr d::(l++r)) J0 (Ea.digs_cons (TF f1) k1) (by rw[S0,k2];rfl) (fun e=>by cases e);rw[D0 (show¬(1:Int)=4 by decide)]at hfull;rw[show Ea.kindOf 95=1 from rfl,hfull];by_cases hg:Ea.good (Ea.chr d::(l++r));(·rw[G0 hg,G0 hg,D0 L0];by_cases h0:d=0;(·rw[G0 h0,G0 ⟨rfl,by rw[TZ];exact(yA f1).2 h0⟩];rfl);·rw[D0 h0,D0 (fun h=>h0 ((yA f1).1 (by rw[TZ]at h;exact h.2)))]);·exact JP
     ·rw[WM g1 g2 (.inr (.inr hm)),D0 hm];rfl
  ·have hh:halv true 0 6 sl=(([],[]),20):=yC;rw[D0 (fun h=>h g1),G0 g2,hh];rfl
 ·have hh:halv true 0 6 sl=(([],[]),19):=(by unfold halv;rw[G0 g1]);rw[G0 g1,hh];rfl
def L9 (h:(List UInt8×List Nat)×Int):(Int×List UInt8)×Int:=
 if h.2≠0 then((0,[]),h.2)else if Ea.good h.1.1 then((2,h.1.1),0)else((0,[]),8)
theorem fH (sl:List Bool) (hW:sl.length=67):Ea.rdSym 67 sl=L9 (halv false 0 4 sl):=by
 unfold Ea.rdSym;rw[show 67-(Ea.stp 67).length=sl.length-3 by rw[hW];rfl,show Ea.stp 67=Ea.gd from rfl];by_cases g1:sl.take 3=Ea.gd
 ·by_cases g2:sl.drop (sl.length-3)=Ea.gd
  ·rw[D0 (fun h=>h g1),D0 (fun h=>h g2)]
   rw[show Ea.rdK 67 sl=Ea.rd8 sl from rfl]
   unfold Ea.rd8
   cases h1:Ea.rcg false 0 0 4 (sl.drop 3)with
   |none=>rw[WM g1 g2 (.inl h1)];rfl
   |some p=>
    obtain⟨l,u⟩:=p
    cases h2:Ea.rcg false 2 0 4 (sl.drop 36)with
    |none=>rw[WM g1 g2 (.inr (.inl h2))];rfl
    |some q=>obtain⟨r,v⟩:=q;dsimp only;by_cases hm:(sl.drop 31).take 5=Ea.md;(·have hh:=yB g1 g2 h1 h2 hm;obtain⟨k1,k2,k3,k4⟩:=PX hh C0;rw[G0 hm,hh];unfold L9;rw[D0 L0];dsimp only;have hfull:=JO (k:=2) (l:=l++r) J0 k1 (by rw[k2];rfl) (fun e=>by cases e);rw[D0 (show¬(2:Int)=4 by decide)]at hfull;rw[show Ea.kindOf 67=2 from rfl,hfull];by_cases hg:Ea.good (l++r);(·exact yD);·exact JP);·rw[WM g1 g2 (.inr (.inr hm)),D0 hm];rfl
  ·have hh:halv false 0 4 sl=(([],[]),20):=yC;rw[D0 (fun h=>h g1),G0 g2,hh];rfl
 ·have hh:halv false 0 4 sl=(([],[]),19):=(by unfold halv;rw[G0 g1]);rw[G0 g1,hh];rfl
end Go.Proofs.YtbngggoccndefaaGreatDoor
namespace Go.Proofs.YtbngggoccndefaaGreatDoor
open Go.Proofs.Tryz
open Go.RowKit
theorem X4 {w w':World} {x y z:Value} {t:TypeId} (h:Ext (w.alloc (.cells #[x,y,z] t)) w'):
 w.heap.size<w'.heap.size∧w'.cell? ⟨w.heap.size,0,none⟩=some x∧w'.cell? ⟨w.heap.size,1,none⟩=some y∧w'.cell? ⟨w.heap.size,2,none⟩=some z∧
  w'.frozen? ⟨w.heap.size,0,none⟩=false∧w'.frozen? ⟨w.heap.size,1,none⟩=false∧w'.frozen? ⟨w.heap.size,2,none⟩=false∧
  Hid (w'.heap[w.heap.size]? =some (.cells #[x,y,z] t (0,0))):=by
 have hs:=h.size
 have hlt:w.heap.size<(w.alloc (.cells #[x,y,z] t)).heap.size:=by simp
 have hb:w'.heap[w.heap.size]? =some (.cells #[x,y,z] t (0,0)):=by rw[h.block _ hlt];exact UO
 exact⟨by omega,Zk hb rfl,Zk hb rfl,Zk hb rfl,ZL hb,ZL hb,ZL hb,B0 hb⟩
theorem Zf {w:World} {b:Nat} {x y z p q r:Value} {t:TypeId} (h:Hid (w.heap[b]? =some (.cells #[x,y,z] t (0,0)))):
 (((w.setCell ⟨b,0,none⟩ p).setCell ⟨b,1,none⟩ q).setCell ⟨b,2,none⟩ r).heap[b]? =some (.cells #[p,q,r] t (0,0)):=
 Zi (Zi (Zi h.out))
theorem Ze {fn:Func} {p u:Tmp} (h:fn.results= #[.cell p 33,.tmp u]) {tmps:Array Value} {w:World} {g:Nat} {t:TypeId} {x y z e:Value}
 (hp:tmps.getD p undef=.pointer (some ⟨g,0,none⟩)) (hg:w.heap[g]? =some (.cells #[x,y,z] t (0,0))) (he:tmps.getD u undef=e):
 (results fn tmps).run prog w=.ok (.tuple #[.agg #[x,y,z],e]) w:=by
 rw[results_cell_tmp h,hp,he]
 simp only[asAddr,SH,SI]
 rw[JQ w g t _ #[x,y,z] (0,0) _ hg underlying33 rfl M0]
 rfl
theorem Ext.before {w w':World} {o:Obj} (h:Ext (w.alloc o) w'):Ext w w':=((Ext.refl w).alloc o).trans h
theorem fI (s:ByteArray) (sl:List Bool) (hs:s.data.toList=Ea.mS sl) (hW:sl.length=67) (w:World):
 Calls prog 213 #[.string s] w fun e w'=>e=.returned (symV (Ea.rdSym 67 sl))∧Ext w w':=by
 have HH:=B0 (fun w=>fF s sl hs hW w)
 rw[fH sl hW]
 obtain⟨⟨⟨l,u⟩,er⟩,hh⟩:∃r,halv false 0 4 sl=r:=⟨_,rfl⟩
 rw[hh]at HH⊢
 simp only[halV]at HH
 have hk:er=0->Ea.digs l=true∧l.length=2*4:=fun h0=>by subst h0;obtain⟨a,b,_⟩:=PX hh C0;exact⟨a,b⟩
 clear hs hW hh
 by_cases h0:er=0
 ·subst h0;obtain⟨hd,hl⟩:=hk rfl;have hR:=fun w=>UT 2 (Ea.bS l) hd (.inr ⟨by decide,by rw[Zc (Ea.bS_list l)];omega,by rw[Zc (Ea.bS_list l)];omega⟩) w;rw[D0 (show¬(2:Int)=4 by decide),Ea.bS_list]at hR;have HR:=B0 hR;clear hR hk hd hl;by_cases hg:Ea.good l;(·rw[F1 hg]at HR;have HG:Hid (L9 ((l,u),0)=((2,l),0)):=B0 (by unfold L9;rw[D0 L0,G0 hg]);exact QM);·rw[D1 hg]at HR;have HG:Hid (L9 ((l,u),0)=((0,[]),8)):=B0 (by unfold L9;rw[D0 L0,D0 hg]);exact QM
 ·have HG:Hid (L9 ((l,u),er)=((0,[]),er)):=B0 (by unfold L9;rw[G0 h0]);rw[HG.out];clear HG hk;unfold symV linV;dsimp only;generalize Ea.bS l=L at*;generalize Ea.bS (Ea.sS u)=U at*;have hb:(er !=0)=true:=N2.2 h0;go_enter func213,ntmps213;go_wp2_with fail;refine(HH.out _).mono ?_;rintro e w2 ⟨rfl,hx⟩;obtain⟨z0,z1,z2,z3,z4,z5,z6,HB⟩:=X4 hx;have hxw:=hx.before;clear hx;go_wp2;refine R1 (Ze results213 rfl (Zf HB) rfl) rfl ?_;exact U5
end Go.Proofs.YtbngggoccndefaaGreatDoor
namespace Go.Proofs.YtbngggoccndefaaGreatDoor
open Go.Proofs.Tryz
open Go.RowKit
theorem TG {w:World} {b g:Nat} {o:Option Obj} {p q r:Value} (hne:b≠g) (h:Hid (w.heap[g]? =o)):
 Hid ((((w.setCell ⟨b,0,none⟩ p).setCell ⟨b,1,none⟩ q).setCell ⟨b,2,none⟩ r).heap[g]? =o):=by
 have e:∀(w:World) (i:Nat) (u:Value),(w.setCell ⟨b,i,none⟩ u).heap[g]? =w.heap[g]? :=fun w i u=>by simp[World.setCell,UI,hne]
 exact B0 (by rw[e,e,e];exact h.out)
theorem fJ (s:ByteArray) (sl:List Bool) (hs:s.data.toList=Ea.mS sl) (hW:sl.length=95) (w:World):
 Calls prog 212 #[.string s] w fun e w'=>e=.returned (symV (Ea.rdSym 95 sl))∧Ext w w':=by
 have HH:=B0 (fun w=>fD s sl hs hW w)
 rw[fG sl hW]
 obtain⟨⟨⟨l,u⟩,er⟩,hh⟩:∃r,halv true 0 6 sl=r:=⟨_,rfl⟩
 rw[hh]at HH⊢
 simp only[halV]at HH
 have hk:er=0->Ea.digs l=true∧l.length=2*6∧∀x∈u,x<3:=fun h0=>by subst h0;obtain⟨a,b,c,_⟩:=PX hh C0;exact⟨a,b,c⟩
 clear hs hW hh
 by_cases h0:er=0
 ·subst h0
  obtain⟨hd,hl,hu⟩:=hk rfl
  have HLI:=B0 (Ea.left_idx u hu)
  have hLs:(Ea.bS l).size<=12:=by rw[Zc (Ea.bS_list l)];omega
  have HLD:=B0 (And.intro hd hl)
  have HPL:Hid (∀d,Ea.find13 u=some d->d<10):=B0 (fun d h=>(Ea.find13_some h).1)
  obtain⟨Q,hQ⟩:∃Q,(Ea.leftB.map Value.string).toArray=Q:=⟨_,rfl⟩
  have hRl:Ea.leftB.length=10:=rfl
  have hQs:Q.size=10:=by rw[<-hQ];simp[hRl]
  have HQ1:Hid (Q.all (·.oneCell')=true):=B0 JK
  have HQd:Hid (∀i,i<10->Q[i]? =some (.string (Ea.leftB.getD i ByteArray.empty))):=B0 (fun i hi=>by rw[<-hQ];simp only[VT,X2];rw[P0 WL,A1,P0 WL];rfl)
  have HRL:=B0 hRl
  have HDR:=B0 (fun w=>qW w)
  unfold arrV at HDR
  rw[hQ]at HDR
  clear hk hQ hRl hu hd hl
  obtain⟨res,hres⟩:∃res,I8 ((l,u),0)=res:=⟨_,rfl⟩
  rw[hres]
  have HRS:=B0 hres
  clear hres
  obtain⟨L,hL⟩:∃L,Ea.bS l=L:=⟨_,rfl⟩
  have HL:=B0 hL
  obtain⟨U,hU⟩:∃U,Ea.bS (Ea.sS u)=U:=⟨_,rfl⟩
  rw[hL]at HH hLs
  rw[hU]at HH HLI
  clear hL hU
  go_enter func212,ntmps212
  go_wp2_with fail
  refine(HH.out _).mono ?_
  rintro e w1 ⟨rfl,hx1⟩
  go_wp2_with fail
  refine(HDR.out _).mono ?_
  rintro e w4 ⟨rfl,hx4⟩
  have hst:=ZS Q hQs HQ1.out w4
  have HNC:=B0 (fun i hi=>E9 Q 210 w4 (HQd.out i hi))
  go_wp2_with fail
  obtain⟨w5,hw5⟩:∃w5,w4.alloc (.cells Q 210)=w5:=⟨_,rfl⟩
  have hsz:w4.heap.size<w5.heap.size:=by rw[<-hw5];simp
  have hx5:=(hx1.trans hx4).alloc (.cells Q 210)
  rw[hw5]at hx5
  rw[hw5]at HNC⊢
  clear hx1 hx4
  have HIX:=B0 (Tryz.slices_Index_string w4.heap.size 0 10 10 Ea.leftB U w5 TA C0 (fun i hi=>by rw[P3];exact HNC.out i JL))
  rw[show Ea.leftB.take 10=Ea.leftB from rfl,HLI.out]at HIX
  clear hst hw5 HNC HRL HQd HQ1 HLI
  cases hf:Ea.find13 u with
  |none=>rw[hf]at HIX;simp only[Ea.plcO]at HIX;have HG:Hid (res=((0,[]),18)):=B0 (by rw[<-HRS.out];unfold I8;rw[D0 L0];dsimp only;rw[hf]);clear hf HPL;refine HIX.out.mono ?_;rintro e w8 ⟨rfl,rfl⟩;have hx:=hx5;obtain⟨z0,z1,z2,z3,z4,z5,z6,HB⟩:=X4 hx;have hxw:=hx.before;clear hx5 hx;exact yE
  |some d=>rw[hf]at HIX;simp only[Ea.plcO]at HIX;have hd10:=HPL.out d hf;have HF:=B0 hf;clear hf HPL;refine HIX.out.mono ?_;rintro e w8 ⟨rfl,rfl⟩;have hc1:(Utf8.encode (48+(d:Int))).data.toList=[Ea.chr d]:=zS;have hz1:(Utf8.encode (48+(d:Int))).size=1:=Zc hc1;obtain⟨CD,hCD⟩:∃CD,Utf8.encode (48+(d:Int))=CD:=⟨_,rfl⟩;rw[hCD]at hc1 hz1;(have hr1:∀w,(convert 21 9 (.int .i32 (48+(d:Int)))).run prog w=.ok (.string CD) w:=fun w=>by rw[<-hCD];exact TC w _ _ _ _ M0 underlying9);have HSS:Hid (CD++L=Ea.bS (Ea.chr d::l)):=B0 (by apply Z7;rw[X3,C4,hc1,<-HL.out];rfl);have HR:=B0 (fun w=>UT 1 (Ea.bS (Ea.chr d::l)) (Ea.digs_cons (TF hd10) HLD.out.1) (.inr ⟨by decide,by rw[Zc (Ea.bS_list _),S0,HLD.out.2];omega,by rw[Zc (Ea.bS_list _),S0,HLD.out.2];omega⟩) w);rw[D0 (show¬(1:Int)=4 by decide),Ea.bS_list,<-HSS.out]at HR;clear hc1 hCD;by_cases hg:Ea.good (Ea.chr d::l);(·rw[F1 hg]at HR;by_cases hd0:d=0;(·have HG:Hid (res=((3,l),0)):=B0 (by rw[<-HRS.out];unfold I8;rw[D0 L0];dsimp only;rw[HF.out];dsimp only;rw[G0 hg,G0 hd0]);have hb0:((d:Int)==0)=true:=(by rw[hd0];rfl);clear hg hd0;go_wp2_with fail;refine(HR.out _).mono ?_;rintro e w9 ⟨rfl,hx9⟩;have hx:=(hx5.alloc _).trans hx9;have hlt:w.heap.size<w8.heap.size:=JR;obtain⟨z0,z1,z2,z3,z4,z5,z6,HB⟩:=X4 hx;obtain⟨y0,y1,y2,y3,y4,y5,y6,HC⟩:=X4 hx9;have hxw:=hx.before;clear hx5 hx hx9;have HL2:Hid (w8.heap.size≠w.heap.size∧w.heap.size<=w8.heap.size):=B0 ⟨by omega,by omega⟩;go_wp2;refine R1 (Ze results212 rfl (Zf (TG HL2.out.1 HB)) rfl) rfl ?_;have HX:=(((hxw.setCell (p:=⟨w8.heap.size,0,none⟩) HL2.out.2 (.int .i64 3)).setCell (p:=⟨w8.heap.size,1,none⟩) HL2.out.2 (.string L)).setCell (p:=⟨w8.heap.size,2,none⟩) HL2.out.2 (.string ⟨#[]⟩));exact⟨by rw[HG.out];unfold symV linV;dsimp only;rw[HL.out];rfl,((HX.setCell (I0 _) _).setCell (I0 _) _).setCell (I0 _) _⟩);·have HG:Hid (res=((1,Ea.chr d::l),0)):=B0 (by rw[<-HRS.out];unfold I8;rw[D0 L0];dsimp only;rw[HF.out];dsimp only;rw[G0 hg,D0 hd0]);have hb0:((d:Int)==0)=false:=QY;clear hg hd0;go_wp2_with fail;refine(HR.out _).mono ?_;rintro e w9 ⟨rfl,hx9⟩;have hx:=(hx5.alloc _).trans hx9;have hlt:w.heap.size<w8.heap.size:=JR;obtain⟨z0,z1,z2,z3,z4,z5,z6,HB⟩:=X4 hx;obtain⟨y0,y1,y2,y3,y4,y5,y6,HC⟩:=X4 hx9;have hxw:=hx.before;clear hx5 hx hx9;go_wp2;refine R1 (Ze results212 rfl (Zf HB) rfl) rfl ?_;exact yF);·rw[D1 hg]at HR;have HG:Hid (res=((0,[]),8)):=B0 (by rw[<-HRS.out];unfold I8;rw[D0 L0];dsimp only;rw[HF.out];dsimp only;rw[D0 hg]);clear hg;go_wp2_with fail;refine(HR.out _).mono ?_;rintro e w9 ⟨rfl,hx9⟩;have hx:=(hx5.alloc _).trans hx9;have hlt:w.heap.size<w8.heap.size:=JR;obtain⟨z0,z1,z2,z3,z4,z5,z6,HB⟩:=X4 hx;obtain⟨y0,y1,y2,y3,y4,y5,y6,HC⟩:=X4 hx9;have hxw:=hx.before;clear hx5 hx hx9;exact yE
 ·have HG:Hid (I8 ((l,u),er)=((0,[]),er)):=B0 (by unfold I8;rw[G0 h0]);rw[HG.out];clear HG hk;unfold symV linV;dsimp only;generalize Ea.bS l=L at*;generalize Ea.bS (Ea.sS u)=U at*;have hb:(er !=0)=true:=N2.2 h0;go_enter func212,ntmps212;go_wp2_with fail;refine(HH.out _).mono ?_;rintro e w2 ⟨rfl,hx⟩;obtain⟨z0,z1,z2,z3,z4,z5,z6,HB⟩:=X4 hx;have hxw:=hx.before;clear hx;go_wp2;refine R1 (Ze results212 rfl (Zf HB) rfl) rfl ?_;exact U5
end Go.Proofs.YtbngggoccndefaaGreatDoor
end
