/-
  Laid.
-/
import Derived.Test.YtbngggoccndefaaGreatDoorLe27
set_option maxHeartbeats 8000000
set_option maxRecDepth 100000
set_option linter.all false
section
namespace Go.Proofs.Enc
open Go.Proofs.Tryz
open Go.RowKit
def LW(x:Nat)(hx:x<128):(Utf8.encode (x:Int)).data.toList=[UInt8.ofNat x]:=by
 have hv:Utf8.valid (x:Int)=true:=by unfold Utf8.valid;exact X0
 unfold Utf8.encode;simp[hv,hx]
def scan(al:List Nat)(m:List Bool):Option (Nat×Nat):=al.foldl (λacc t=>match Ea.Jy t m with
 |some d=>some (d,t)
 |none=>acc) none
def cO(al:List Nat)(t:Nat)(m:List Bool):scan (al++[t]) m=match Ea.Jy t m with
 |some d=>some (d,t)
 |none=>scan al m:=by unfold scan;rw[WI];rfl
def Zk0(m:List Bool):scan [0,1] m=Ea.look true 0 m:=by unfold scan Ea.look;simp only[N3,B6,M3];cases Ea.Jy 1 m<;>cases Ea.Jy 0 m<;>rfl
def Zmk(t:Nat)(m:List Bool):scan [t] m=Ea.look false t m:=by unfold scan Ea.look;simp only[N3,B6,LI,E4];cases Ea.Jy t m<;>rfl
def alOf(both:Bool)(t:Nat):List Nat:=if both=true then [0,1]else [t]
def Zn4(both:Bool)(t:Nat)(ht:both=true->t=0)(m:List Bool):scan (alOf both t) m=Ea.look both t m:=by
 cases both with
 |true=>rw[ht rfl];exact Zk0 m
 |false=>exact Zmk t m
def scD(o:Option (Nat×Nat)):Int:=match o with
 |some (d,_)=>(d:Int)
 |none=> -1
def scT(o:Option (Nat×Nat)):Int:=match o with
 |some (_,t)=>65+(t:Int)
 |none=>0
def Zn5{al:List Nat}(ha:∀t∈al,t<3){m:List Bool}{d t:Nat}(h:scan al m=some (d,t)):d<10/\t<3:=by
 have key:∀(al:List Nat)(acc:Option (Nat×Nat)),(∀t∈al,t<3)->(∀d t,acc=some (d,t)->d<10/\t<3)->∀d t,al.foldl (λacc t=>match Ea.Jy t m with
  |some d=>some (d,t)
  |none=>acc) acc=some (d,t)->d<10/\t<3:=by
  intro al
  induction al with
  |nil=>intro acc _ h d t e;exact h d t e
  |cons u al ih=>
   intro acc h1 h2 d t e
   refine ih _ (λt ht=>h1 t (Y1 _ ht)) ?_ d t e
   intro d t e
   dsimp only at e
   cases hl:Ea.Jy u m with
   |none=>simp only[hl]at e;exact h2 d t e
   |some d0=>simp only[hl]at e;cases e;exact⟨(Ea.lookT_some (h1 u (C2 ..)) hl).1,h1 u (C2 ..)⟩
 exact key al none ha (λd t h=>by cases h) d t h
def recV(o:Option (List UInt8×List Nat)):Value:=match o with
 |some (l,u)=>.tuple #[.string (Ea.bS l),.string (Ea.bS (Ea.sS u)),.bool true]
 |none=>.tuple #[.string ⟨#[]⟩,.string ⟨#[]⟩,.bool false]
def TR(both:Bool)(t n:Nat)(sl:List Bool)(s al:ByteArray)(hs:s.data.toList=Ea.mS sl)(hn:sl.length=7*n)(aIm:n<=12)(ht:t<3)(hb:both=true->t=0)(IL:al.data.toList=Ea.sS (alOf both t))(w:World):
 Calls prog 254 #[.string s,.string al] w λe w'=>e=.returned (recV (Ea.rcg both t 0 n sl))/\Ext w w':=by
 obtain⟨R,hR⟩:∃R,Ea.rcg both t 0 n sl=R:=⟨_,rfl⟩;rw[hR];have Uy:Hid (R=Ea.Up (Ea.rcg both t 0 n sl) [] []):=B0 (by rw[Ea.aHb,hR]);have HSC:=B0 (Zn4 both t hb);have Wv:=B0 IL;have hA3:∀u∈alOf both t,u<3:=by unfold alOf;split;(·simp);·simpa using ht
 have HA3:=B0 hA3;have aCH:al.size=(alOf both t).length:=by rw[Zd IL,Ea.aEa]
 have aHw:al.size<=2:=by rw[aCH];unfold alOf;split<;>simp
 have aCz:=B0 aCH;clear IL hA3 aCH;generalize alOf both t=A at*;go_enter func254,ntmps254;go_wp2_with fail;go_loopw [0,4,5] (λv0 v4 v5 wr=>∃(k:Nat)(S D T:ByteArray)(ds:List UInt8)(us:List Nat),k<=n/\v0=.string S/\v4=.string D/\v5=.string T/\Hid (S.data.toList=Ea.mS (sl.drop (7*k)))/\Hid (D.data.toList=ds)/\Hid (T.data.toList=Ea.sS us)/\D.size=k/\T.size=k/\Hid (R=Ea.Up (Ea.rcg both t 0 (n-k) (sl.drop (7*k))) ds us)/\Ext w wr) (λv0 _ _ _=>match v0 with| .string S=>S.size|_=>0)
 case atStart=>exact⟨0,s,⟨#[]⟩,⟨#[]⟩,[],[],R0 _,rfl,rfl,rfl,B0 (by rw[NS,B5];exact hs),B0 rfl,B0 rfl,rfl,rfl,B0 (by rw[NS,B5,T8];exact Uy.out),Ext.refl w⟩
 case round=>
  obtain⟨k,S,D,T,ds,us,hk,rfl,rfl,rfl,HS,HD,HT,Ky,Rz,HSO,j3⟩:=hrel;have hSs:S.size=7*(n-k):=(by rw[Zd HS.out,Ea.Lk,X1,hn];omega);by_cases hlt:k<n
  .have hS7:7<=S.size:=C0;have Yc:S.size<=84:=C0;have k7:S.toList.isEmpty=false:=(by rw[I2,RR];intro h;rw[<-Za,h]at hS7;simp at hS7);obtain⟨m,hm⟩:∃m,(sl.drop (7*k)).take 7=m:=⟨_,rfl⟩;have HP7:Hid (S.extract 0 7=Ea.bS (Ea.mS m)):=B0 (by apply Zi;rw[Zx,HS.out,Ea.Wp,hm];rfl);clear hSs;go_wp2_with fail;go_loopw [18,7,8] (λv18 v7 v8 wq=>∃j:Nat,j<=al.size/\v18=.int .i64 (j:Int)/\v7=.int .i64 (scD (scan (A.take j) m))/\v8=.int .u8 (scT (scan (A.take j) m))/\Ext w wq) (λv18 _ _ _=>al.size-(intOf v18).toNat);(case atStart=>exact⟨0,R0 _,rfl,rfl,rfl,Xf⟩);case round=>
    clear j3;obtain⟨j,hj,rfl,rfl,rfl,j3⟩:=hrel;by_cases hja:j<al.size
    .obtain⟨u,hu⟩:∃u,A[j]? =some u:=⟨_,P0 (by rw[<-aCz.out];exact hja)⟩
     have Fw:=HA3.out u (L1 hu)
     have hau:al[j].toNat=65+u:=by have h1:al.data.toList[j]? =some al[j]:=P0 (by rw[Za];exact hja);rw[Wv.out]at h1;unfold Ea.sS at h1;rw[B3,hu]at h1;have h2:Ea.cS u=al[j]:=YW;rw[<-h2];unfold Ea.cS;exact X0
     have Fp:Hid (A.take (j+1)=A.take j++[u]):=B0 (by obtain⟨h1,h2⟩:=N1.1 hu;rw[L9 h1,h2])
     have Cp:Hid (∀w,Calls prog 181 #[.int .u8 (65+(u:Int))] w λe w'=>e=.returned (arrV (Ea.Ms u))/\Ext w w'):=B0 (λw=>aQ u Fw w)
     have Gy:=bL Fw
     have Iu:=B0 (Ea.aH0 u m)
     have HLT:Hid (∀d,Ea.Jy u m=some d->d<10):=B0 (λd h=>(Ea.lookT_some Fw h).1)
     unfold arrV at Cp
     obtain⟨Q,hQ⟩:∃Q,((Ea.Ms u).map Value.string).toArray=Q:=⟨_,rfl⟩
     have Rx:Q.size=10:=by rw[<-hQ];simp[Gy]
     have Ic:Hid (Q.all (·.oneCell')=true):=B0 BS
     have HQd:Hid (∀i,i<10->Q[i]? =some (.string ((Ea.Ms u).getD i ByteArray.empty))):=B0 (λi hi=>by rw[<-hQ];simp only[RI,B3];rw[P0 TS,F1,P0 TS];rfl)
     have Nv:=B0 Gy
     rw[hQ]at Cp
     clear hu hQ Gy
     go_wp2_with fail
     refine(Cp.out _).mono ?_
     rintro e w4 ⟨rfl,j9⟩
     have p9:=TA Q Rx Ic.out w4
     have Rf:=B0 (λi hi=>R7 Q 210 w4 (HQd.out i hi))
     go_wp2_with fail
     obtain⟨w5,Ek⟩:∃w5,w4.alloc (.cells Q 210)=w5:=⟨_,rfl⟩
     have o4:w4.heap.size<w5.heap.size:=by rw[<-Ek];simp
     have j5:Ext w w5:=by rw[<-Ek];exact(j3.trans j9).alloc _
     rw[Ek]at Rf⊢
     have IX:=B0 (λ(x:Zw w5)=>Tryz.slices_Index_string w4.heap.size 0 10 10 (Ea.Ms u) (S.extract 0 7) x.at' PQ C0 (λi hi=>by rw[Nat.zero_add,x.ext.cell (p:=⟨w4.heap.size,i,none⟩) o4];exact Rf.out i BT))
     rw[HP7.out,show(Ea.Ms u).take 10=Ea.Ms u from S1 PQ,Iu.out,<-HP7.out]at IX
     clear p9 Ek Rf Iu
     cases Fu:Ea.Jy u m with
     |none=>rw[Fu]at IX;simp only[Ea.plcO]at IX;have Nx:Hid (scan (A.take (j+1)) m=scan (A.take j) m):=B0 (by rw[Fp.out,cO,Fu]);clear Fu HLT hau Fp;refine T6 (C:=λw'=>∃x:Zw w5,w'=x.at') N0 N0 (Zw.drawn _) ?_;(try dsimp only);(repeat(first|go_big_quiet_step ((go_at_call 252;with_reducible exact Zq ((IX.out _).mono λ_ _ h=>⟨h.1,h.2▸Ext.refl _⟩)))|quiet_step ((go_at_call 252;with_reducible exact Zq ((IX.out _).mono λ_ _ h=>⟨h.1,h.2▸Ext.refl _⟩)))));refine U6 ?_;intro _ n9;obtain⟨x0,n9⟩:=n9;subst n9;obtain⟨w8,Hb⟩:=x0;(try dsimp only);go_wp2;go_roundw;(case rel=>exact⟨j+1,by omega,by go_num,by rw[Nx.out],by rw[Nx.out],j5.trans Hb⟩);case measure=>exact QH
     |some d=>have Se:=HLT.out d Fu;rw[Fu]at IX;simp only[Ea.plcO]at IX;have Nx:Hid (scan (A.take (j+1)) m=some (d,u)):=B0 (by rw[Fp.out,cO,Fu]);clear Fu HLT Fp;refine T6 (C:=λw'=>∃x:Zw w5,w'=x.at') N0 N0 (Zw.drawn _) ?_;(try dsimp only);(repeat(first|go_big_quiet_step ((go_at_call 252;with_reducible exact Zq ((IX.out _).mono λ_ _ h=>⟨h.1,h.2▸Ext.refl _⟩)))|quiet_step ((go_at_call 252;with_reducible exact Zq ((IX.out _).mono λ_ _ h=>⟨h.1,h.2▸Ext.refl _⟩)))));refine U6 ?_;intro _ n9;obtain⟨x0,n9⟩:=n9;subst n9;obtain⟨w8,Hb⟩:=x0;(try dsimp only);go_wp2;go_quiet (fail);go_wp2;go_roundw;(case rel=>exact⟨j+1,by omega,by go_num,by rw[Nx.out];rfl,by rw[Nx.out];rfl,(j5.trans Hb).drewN _⟩);case measure=>exact QH
    .obtain rfl:j=al.size:=by omega
     rw[show A.take al.size=A by rw[aCz.out,J6]]at*
     rw[HSC.out]at*
     have It:=B0 (λd u (h:Ea.look both t m=some (d,u))=>Zn5 HA3.out (by rw[HSC.out];exact h))
     obtain⟨q,hq⟩:∃q,n-k=q+1:=⟨n-k-1,by omega⟩
     rw[hq]at HSO
     clear hj hja
     cases Fu:Ea.look both t m with
     |none=>have HRN:Hid (R=none):=B0 (by rw[HSO.out,Ea.aHP (by rw[hm];exact Fu)];rfl);simp only[scD,scT];clear Fu hm hq;go_wp2;go_ret3;exact⟨by rw[HRN.out];rfl,j3⟩
     |some p=>obtain⟨d,u⟩:=p;obtain⟨Se,Fw⟩:=It.out d u Fu;simp only[scD,scT];have aEw:Hid (R=Ea.Up (Ea.rcg both t 0 (n-(k+1)) (sl.drop (7*(k+1)))) (ds++[Ea.chr d]) (us++[u])):=B0 (by rw[HSO.out,Ea.aHQ (by rw[hm];exact Fu),show n-(k+1)=q by omega,P4,show 7*k+(7+0)=7*(k+1) by omega]);have Am:(Utf8.encode (48+(d:Int))).data.toList=[Ea.chr d]:=cP;have IS:(Utf8.encode (65+(u:Int))).data.toList=[Ea.cS u]:=(by rw[show(65+(u:Int))=((65+u:Nat):Int) by omega];exact LW (65+u) C0);have p8:(Utf8.encode (48+(d:Int))).size=1:=Zd Am;have x9:(Utf8.encode (65+(u:Int))).size=1:=Zd IS;obtain⟨CD,Pb⟩:∃CD,Utf8.encode (48+(d:Int))=CD:=⟨_,rfl⟩;obtain⟨CT,Xy⟩:∃CT,Utf8.encode (65+(u:Int))=CT:=⟨_,rfl⟩;rw[Pb]at Am p8;rw[Xy]at IS x9;(have IZ:∀w,(convert 21 9 (.int .i32 (48+(d:Int)))).run prog w=.ok (.string CD) w:=λw=>by rw[<-Pb];exact PR w _ _ _ _ N0 underlying9);(have Aa:∀w,(convert 21 9 (.int .i32 (65+(u:Int)))).run prog w=.ok (.string CT) w:=λw=>by rw[<-Xy];exact PR w _ _ _ _ N0 underlying9);have Dl:Hid ((D++CD:ByteArray).data.toList=ds++[Ea.chr d]):=B0 (by rw[A4,B4,HD.out,Am]);have Ad:Hid ((T++CT:ByteArray).data.toList=Ea.sS (us++[u])):=B0 (by rw[A4,B4,HT.out,Ea.aE9,IS];rfl);have Dc:Hid ((S.extract 7 S.size).data.toList=Ea.mS (sl.drop (7*(k+1)))):=B0 (by rw[Z8,HS.out,Ea.Wo,P4,show 7*k+7=7*(k+1) by omega]);have aHy:D.size<=12:=C0;have aII:T.size<=12:=C0;have HDZ:Hid (D.size=k/\T.size=k):=B0 ⟨Ky,Rz⟩;clear Fu hm hq Am IS Ky Rz Pb Xy;go_wp2;go_roundw;(case rel=>exact⟨k+1,_,_,_,_,_,by omega,rfl,rfl,rfl,Dc,Dl,Ad,by rw[ZZ,p8,HDZ.out.1],by rw[ZZ,x9,HDZ.out.2],aEw,j3⟩);case measure=>exact X0
  .obtain rfl:k=n:=C0;have Ou:Hid (R=some (ds,us)):=B0 (by rw[HSO.out,Y3];exact Ea.aHa ds us);have Yb:S.toList=[]:=(by rw[I2];exact U3 (by rw[Za,hSs,Y3]));have hS1:S.toList.isEmpty=true:=(by rw[Yb];rfl);have HE:Hid (Value.string D=.string (Ea.bS ds)/\Value.string T=.string (Ea.bS (Ea.sS us))):=B0 (by rw[<-HD.out,<-HT.out,Ea.Xm,Ea.Xm];exact⟨rfl,rfl⟩);clear hlt hk hSs;go_wp2;go_ret3;exact⟨by rw[Ou.out];simp only[recV];rw[<-HE.out.1,<-HE.out.2];rfl,j3⟩
end Go.Proofs.Enc
namespace Go.Proofs.Enc
open Go.Proofs.Tryz
open Go.RowKit
def PS(both:Bool)(t:Nat):∀(n:Nat)(s:List Bool),Ea.rcg both t 0 n (s.take (7*n))=Ea.rcg both t 0 n s:=by
 intro n
 induction n with
 |zero=>intro s;rfl
 |succ n ih=>intro s;have e:7*(n+1)=7+7*n:=C0;rw[Ea.rcg,Ea.rcg,UV,show min 7 (7*(n+1))=7 by omega];have e2:(s.take (7*(n+1))).drop (7+0)=(s.drop (7+0)).take (7*n):=(by rw[NV];congr 1);rw[e2,ih]
def LX{both:Bool}{t Iy:Nat}:∀ {n:Nat}{s:List Bool}{l:List UInt8}{u:List Nat},Ea.rcg both t Iy n s=some (l,u)->l.length=n:=by
 intro n
 induction n with
 |zero=>intro s l u h;cases h;rfl
 |succ n ih=>
  intro s l u h
  rw[Ea.rcg]at h
  cases h1:Ea.look both t (s.take 7)with
  |none=>rw[h1]at h;cases h
  |some p=>
   rw[h1]at h
   dsimp only at h
   cases h2:Ea.rcg both t Iy n (s.drop (7+Iy))with
   |none=>rw[h2]at h;cases h
   |some q=>rw[h2]at h;cases h;simp[ih h2]
def hasP(s p:ByteArray)(pl sl:List Bool)(hs:s.data.toList=Ea.mS sl)(hp:p.data.toList=Ea.mS pl)(w:World):Calls prog 177 #[.string s,.string p] w λe w'=>e=.returned (.bool (decide (sl.take pl.length=pl)))/\w=w':=by refine(Tryz.strings_HasPrefix s p w).mono ?_;rintro e w' ⟨rfl,rfl⟩;exact⟨by rw[hs,hp,Ea.mS_prefix],rfl⟩
def hasS(s p:ByteArray)(pl sl:List Bool)(hs:s.data.toList=Ea.mS sl)(hp:p.data.toList=Ea.mS pl)(hl:pl.length<=sl.length)(hz:s.size<=9223372036854775807)(w:World):Calls prog 253 #[.string s,.string p] w λe w'=>e=.returned (.bool (decide (sl.drop (sl.length-pl.length)=pl)))/\w=w':=by refine(Tryz.strings_HasSuffix s p w hz).mono ?_;rintro e w' ⟨rfl,rfl⟩;exact⟨by rw[hs,hp,Ea.aGz _ _ hl],rfl⟩
def halv(both:Bool)(t n:Nat)(sl:List Bool):(List UInt8×List Nat)×Int:=
 if sl.take 3≠Ea.gd then(([],[]),19)
 else if sl.drop (sl.length-3)≠Ea.gd then(([],[]),20)
 else match Ea.rcg both t 0 n (sl.drop 3),Ea.rcg false 2 0 n (sl.drop (7*n+8))with
  |some (l,u),some (r,_)=>if(sl.drop (7*n+3)).take 5=Ea.md then((l++r,u),0)else(([],[]),18)
  |_,_=>(([],[]),18)
def halV(r:(List UInt8×List Nat)×Int):Value:=.tuple #[.string (Ea.bS r.1.1),.string (Ea.bS (Ea.sS r.1.2)),.int .i64 r.2]
def Zhr(s:ByteArray)(sl:List Bool)(hs:s.data.toList=Ea.mS sl)(hW:sl.length=95)(w:World):
 Calls prog 251 #[.string s,.int .i64 6,.string ⟨#[65,66]⟩] w λe w'=>e=.returned (halV (halv true 0 6 sl))/\Ext w w':=by
 have o4:s.size=95:=BU;have HX:=B0 (halv.eq_1 true 0 6 sl);rw[hW]at HX;have HP:=B0 (λw=>hasP s ⟨#[49,48,49]⟩ Ea.gd sl hs rfl w);have HQ:=B0 (λw=>hasS s ⟨#[49,48,49]⟩ Ea.gd sl hs rfl (by rw[hW];decide) C0 w);rw[show Ea.gd.length=3 from rfl]at HP HQ;rw[hW]at HQ;obtain⟨J,hJ⟩:∃J,s.extract 3 92=J:=⟨_,rfl⟩;have Ua:J.data.toList=Ea.mS ((sl.drop 3).take 89):=BV;have hJs:J.size=89:=cQ;have HJ:=B0 hJ;have c1:(J.extract 0 42).data.toList=Ea.mS ((sl.drop 3).take 42):=by rw[Zx,Ua,Ea.Wp,UV];rfl
 have c2:(J.extract 47 89).data.toList=Ea.mS ((sl.drop 50).take 42):=LY;have c3:(J.extract 42 47).data.toList=Ea.mS ((sl.drop 45).take 5):=LY;have HL:=B0 (TR true 0 6 ((sl.drop 3).take 42) (J.extract 0 42) ⟨#[65,66]⟩ c1 PT C0 C0 (λ_=>rfl) rfl);have HR:=B0 (TR false 2 6 ((sl.drop 50).take 42) (J.extract 47 89) ⟨#[67]⟩ c2 PT C0 C0 (λh=>by cases h) rfl);rw[PS true 0 6 (sl.drop 3)]at HL;rw[PS false 2 6 (sl.drop 50)]at HR;have HM:Hid (((J.extract 42 47).toList== [48,49,48,49,48])=decide ((sl.drop 45).take 5=Ea.md)):=B0 cR;clear hs hW c1 c2 c3 Ua;by_cases g1:sl.take 3=Ea.gd
 .rw[D0 (λh=>h g1)]at HX;rw[C1 g1]at HP;clear g1;by_cases g2:sl.drop 92=Ea.gd
  .rw[D0 (λh=>h g2)]at HX
   rw[C1 g2]at HQ
   clear g2
   cases h1:Ea.rcg true 0 0 6 (sl.drop 3)with
   |none=>
    rw[h1]at HX HL
    have HN:Hid (halv true 0 6 sl=(([],[]),18)):=B0 PU
    clear HX
    generalize halv true 0 6 sl=res at*
    cases h2:Ea.rcg false 2 0 6 (sl.drop 50)with
    |none=>rw[h2]at HR;exact Qp
    |some q=>obtain⟨r,v⟩:=q;rw[h2]at HR;exact Qp
   |some p=>
    obtain⟨l,u⟩:=p
    cases h2:Ea.rcg false 2 0 6 (sl.drop 50)with
    |none=>rw[h1]at HX HL;rw[h2]at HX HR;have HN:Hid (halv true 0 6 sl=(([],[]),18)):=B0 PU;clear HX;generalize halv true 0 6 sl=res at*;exact Qp
    |some q=>obtain⟨r,v⟩:=q;have hl:=LX h1;have hr:=LX h2;rw[h1]at HX HL;rw[h2]at HX HR;have bl:(Ea.bS l).size=6:=(by rw[Zd (Ea.Bw l),hl]);have br:(Ea.bS r).size=6:=(by rw[Zd (Ea.Bw r),hr]);have HAP:Hid (Ea.bS l++Ea.bS r=Ea.bS (l++r)):=B0 (Zi BQ);simp only[recV]at HL HR;cases hm:((J.extract 42 47).toList== [48,49,48,49,48]);(·have Bm:=HM.out;rw[hm]at Bm;have HN:Hid (halv true 0 6 sl=(([],[]),18)):=B0 cT;clear HX Bm;generalize halv true 0 6 sl=res at*;subst hJ;clear h1 h2 HM hl hr;exact Qd);·have Bm:=HM.out;rw[hm]at Bm;have HN:Hid (halv true 0 6 sl=((l++r,u),0)):=B0 cU;clear HX Bm;generalize halv true 0 6 sl=res at*;exact cV
  .rw[G0 g2]at HX;rw[G1 g2]at HQ;generalize halv true 0 6 sl=res at*;exact cW
 .rw[G0 g1]at HX;rw[G1 g1]at HP;generalize halv true 0 6 sl=res at*;exact cX
def Zg1(s:ByteArray)(sl:List Bool)(hs:s.data.toList=Ea.mS sl)(hW:sl.length=67)(w:World):
 Calls prog 251 #[.string s,.int .i64 4,.string ⟨#[65]⟩] w λe w'=>e=.returned (halV (halv false 0 4 sl))/\Ext w w':=by
 have o4:s.size=67:=BU;have HX:=B0 (halv.eq_1 false 0 4 sl);rw[hW]at HX;have HP:=B0 (λw=>hasP s ⟨#[49,48,49]⟩ Ea.gd sl hs rfl w);have HQ:=B0 (λw=>hasS s ⟨#[49,48,49]⟩ Ea.gd sl hs rfl (by rw[hW];decide) C0 w);rw[show Ea.gd.length=3 from rfl]at HP HQ;rw[hW]at HQ;obtain⟨J,hJ⟩:∃J,s.extract 3 64=J:=⟨_,rfl⟩;have Ua:J.data.toList=Ea.mS ((sl.drop 3).take 61):=BV;have hJs:J.size=61:=cQ;have HJ:=B0 hJ;have c1:(J.extract 0 28).data.toList=Ea.mS ((sl.drop 3).take 28):=by rw[Zx,Ua,Ea.Wp,UV];rfl
 have c2:(J.extract 33 61).data.toList=Ea.mS ((sl.drop 36).take 28):=LY;have c3:(J.extract 28 33).data.toList=Ea.mS ((sl.drop 31).take 5):=LY;have HL:=B0 (TR false 0 4 ((sl.drop 3).take 28) (J.extract 0 28) ⟨#[65]⟩ c1 PT C0 C0 (λ_=>rfl) rfl);have HR:=B0 (TR false 2 4 ((sl.drop 36).take 28) (J.extract 33 61) ⟨#[67]⟩ c2 PT C0 C0 (λh=>by cases h) rfl);rw[PS false 0 4 (sl.drop 3)]at HL;rw[PS false 2 4 (sl.drop 36)]at HR;have HM:Hid (((J.extract 28 33).toList== [48,49,48,49,48])=decide ((sl.drop 31).take 5=Ea.md)):=B0 cR;clear hs hW c1 c2 c3 Ua;by_cases g1:sl.take 3=Ea.gd
 .rw[D0 (λh=>h g1)]at HX;rw[C1 g1]at HP;clear g1;by_cases g2:sl.drop 64=Ea.gd
  .rw[D0 (λh=>h g2)]at HX
   rw[C1 g2]at HQ
   clear g2
   cases h1:Ea.rcg false 0 0 4 (sl.drop 3)with
   |none=>
    rw[h1]at HX HL
    have HN:Hid (halv false 0 4 sl=(([],[]),18)):=B0 PU
    clear HX
    generalize halv false 0 4 sl=res at*
    cases h2:Ea.rcg false 2 0 4 (sl.drop 36)with
    |none=>rw[h2]at HR;exact Qo
    |some q=>obtain⟨r,v⟩:=q;rw[h2]at HR;exact Qo
   |some p=>
    obtain⟨l,u⟩:=p
    cases h2:Ea.rcg false 2 0 4 (sl.drop 36)with
    |none=>rw[h1]at HX HL;rw[h2]at HX HR;have HN:Hid (halv false 0 4 sl=(([],[]),18)):=B0 PU;clear HX;generalize halv false 0 4 sl=res at*;exact Qo
    |some q=>obtain⟨r,v⟩:=q;have hl:=LX h1;have hr:=LX h2;rw[h1]at HX HL;rw[h2]at HX HR;have bl:(Ea.bS l).size=4:=(by rw[Zd (Ea.Bw l),hl]);have br:(Ea.bS r).size=4:=(by rw[Zd (Ea.Bw r),hr]);have HAP:Hid (Ea.bS l++Ea.bS r=Ea.bS (l++r)):=B0 (Zi BQ);simp only[recV]at HL HR;cases hm:((J.extract 28 33).toList== [48,49,48,49,48]);(·have Bm:=HM.out;rw[hm]at Bm;have HN:Hid (halv false 0 4 sl=(([],[]),18)):=B0 cT;clear HX Bm;generalize halv false 0 4 sl=res at*;subst hJ;clear h1 h2 HM hl hr;exact Qd);·have Bm:=HM.out;rw[hm]at Bm;have HN:Hid (halv false 0 4 sl=((l++r,u),0)):=B0 cU;clear HX Bm;generalize halv false 0 4 sl=res at*;exact cV
  .rw[G0 g2]at HX;rw[G1 g2]at HQ;generalize halv false 0 4 sl=res at*;exact cW
 .rw[G0 g1]at HX;rw[G1 g1]at HP;generalize halv false 0 4 sl=res at*;exact cX
end Go.Proofs.Enc
namespace Go.Proofs.Enc
open Go.Proofs.Tryz
open Go.RowKit
def linV(k:Int)(t a:List UInt8):Value:=.agg #[.int .i64 k,.string (Ea.bS t),.string (Ea.bS a)]
def symV(r:(Int×List UInt8)×Int):Value:=.tuple #[linV r.1.1 r.1.2 [],.int .i64 r.2]
def LZ{both:Bool}{n:Nat}{sl:List Bool}{l:List UInt8}{u:List Nat}(h:halv both 0 n sl=((l,u),0))(hl:14*n+8<=sl.length):Ea.o6 l=true/\l.length=2*n/\(∀x∈u,x<3)/\u.length=n:=by
 unfold halv at h;split at h
 .cases h
 split at h
 .cases h
 cases h1:Ea.rcg both 0 0 n (sl.drop 3)with
 |none=>rw[h1]at h;cases h
 |some p=>
  obtain⟨l1,u1⟩:=p
  cases h2:Ea.rcg false 2 0 n (sl.drop (7*n+8))with
  |none=>rw[h1,h2]at h;cases h
  |some q=>obtain⟨l2,u2⟩:=q;rw[h1,h2]at h;dsimp only at h;split at h;(·cases h;obtain⟨_,a2,a3,a4,a5⟩:=Ea.rcg_inv both 0 C0 n _ _ _ h1 YO;obtain⟨_,b2,b3,b4,b5⟩:=Ea.rcg_inv false 2 C0 n _ _ _ h2 YO;exact⟨by rw[Ea.aAw];exact⟨a4,b4⟩,by rw[S0,a2,b2];omega,λx hx=>Ea.may_lt C0 (a5 x hx),a3⟩);·cases h
def BW{k:Int}{l:List UInt8}(h1:Ea.size k≠0)(h2:Ea.o6 l=true)(h3:l.length=Ea.size k)(h4:k=4->l.getD 0 0<=49):Ea.full k l=if Ea.Ap (if k=4 then Ea.Bl l else l)then 0 else 8:=by rw[bQ,D0 h1,D0 (by rw[h2];simp),D0 (λh=>h h3),D0 (λh=>h.2 (h4 h.1))]
def YB(h:(List UInt8×List Nat)×Int):(Int×List UInt8)×Int:=
 if h.2≠0 then((0,[]),h.2)else match Ea.Xp h.1.2 with
  |none=>((0,[]),18)
  |some d=>if Ea.Ap (Ea.chr d::h.1.1)then(if d=0 then((3,h.1.1),0)else((1,Ea.chr d::h.1.1),0))else((0,[]),8)
def cY{d:Nat}(hd:d<10):Ea.chr d=48↔d=0:=by
 have:∀d:Fin 10,Ea.chr d=48↔d.1=0:=by decide
 exact this ⟨d,hd⟩
def PV{d:Nat}(hd:d<10):48<=(Ea.chr d).toNat/\(Ea.chr d).toNat<=57:=by unfold Ea.chr;rw[Ea.chr_nat hd];omega
def TT{both:Bool}{t n:Nat}{sl:List Bool}(g1:sl.take 3=Ea.gd)(g2:sl.drop (sl.length-3)=Ea.gd)(h:Ea.rcg both t 0 n (sl.drop 3)=none\/Ea.rcg false 2 0 n (sl.drop (7*n+8))=none\/(sl.drop (7*n+3)).take 5≠Ea.md):halv both t n sl=(([],[]),18):=by
 unfold halv;rw[D0 (λh=>h g1),D0 (λh=>h g2)];cases h1:Ea.rcg both t 0 n (sl.drop 3)with
 |none=>rfl
 |some p=>
  cases h2:Ea.rcg false 2 0 n (sl.drop (7*n+8))with
  |none=>rfl
  |some q=>rw[h1,h2]at h;exact D0 (h.resolve_left L0 |>.resolve_left L0)
def cZ{both:Bool}{t n:Nat}{sl:List Bool}{l r:List UInt8}{u v:List Nat}(g1:sl.take 3=Ea.gd)(g2:sl.drop (sl.length-3)=Ea.gd)(h1:Ea.rcg both t 0 n (sl.drop 3)=some (l,u))(h2:Ea.rcg false 2 0 n (sl.drop (7*n+8))=some (r,v))(hm:(sl.drop (7*n+3)).take 5=Ea.md):halv both t n sl=((l++r,u),0):=by unfold halv;rw[D0 (λh=>h g1),D0 (λh=>h g2),h1,h2];exact G0 hm
def Zng(sl:List Bool)(hW:sl.length=95):Ea.rdSym 95 sl=YB (halv true 0 6 sl):=by
 unfold Ea.rdSym;rw[show 95-(Ea.Uq 95).length=sl.length-3 by rw[hW];rfl,show Ea.Uq 95=Ea.gd from rfl];by_cases g1:sl.take 3=Ea.gd
 .by_cases g2:sl.drop (sl.length-3)=Ea.gd
  .rw[D0 (λh=>h g1),D0 (λh=>h g2)]
   rw[show Ea.rdK 95 sl=Ea.rd13 sl from rfl]
   unfold Ea.rd13
   cases h1:Ea.rcg true 0 0 6 (sl.drop 3)with
   |none=>rw[TT g1 g2 (.inl h1)];rfl
   |some p=>
    obtain⟨l,u⟩:=p
    cases h2:Ea.rcg false 2 0 6 (sl.drop 50)with
    |none=>rw[TT g1 g2 (.inr (.inl h2))];rfl
    |some q=>
     obtain⟨r,v⟩:=q;dsimp only;by_cases hm:(sl.drop 45).take 5=Ea.md
     .have hh:=cZ g1 g2 h1 h2 hm
      obtain⟨k1,k2,k3,k4⟩:=LZ hh C0
      rw[G0 hm,hh]
      unfold YB
      rw[D0 L0]
      dsimp only
      cases hf:Ea.Xp u with
      |none=>rfl
      |some d=>obtain⟨f1,_⟩:=Ea.aDY hf;rw[YS];dsimp only;have Yk:=BW (k:=1) (l:=Ea.chr d::(l++r)) I0 (Ea.Vk (PV f1) k1) (by rw[B1,k2];rfl) (λe=>by cases e);rw[D0 (show¬(1:Int)=4 by decide)]at Yk;rw[show Ea.kindOf 95=1 from rfl,Yk];by_cases hg:Ea.Ap (Ea.chr d::(l++r));(·rw[G0 hg,G0 hg,D0 L0];by_cases h0:d=0;(·rw[G0 h0,G0 ⟨rfl,by rw[SR];exact(cY f1).2 h0⟩];rfl);·rw[D0 h0,D0 (λh=>h0 ((cY f1).1 (by rw[SR]at h;exact h.2)))]);·exact BX
     .rw[TT g1 g2 (.inr (.inr hm)),D0 hm];rfl
  .have hh:halv true 0 6 sl=(([],[]),20):=dC;rw[D0 (λh=>h g1),G0 g2,hh];rfl
 .have hh:halv true 0 6 sl=(([],[]),19):=(by unfold halv;rw[G0 g1]);rw[G0 g1,hh];rfl
def XI(h:(List UInt8×List Nat)×Int):(Int×List UInt8)×Int:=
 if h.2≠0 then((0,[]),h.2)else if Ea.Ap h.1.1 then((2,h.1.1),0)else((0,[]),8)
def Zmn(sl:List Bool)(hW:sl.length=67):Ea.rdSym 67 sl=XI (halv false 0 4 sl):=by
 unfold Ea.rdSym;rw[show 67-(Ea.Uq 67).length=sl.length-3 by rw[hW];rfl,show Ea.Uq 67=Ea.gd from rfl];by_cases g1:sl.take 3=Ea.gd
 .by_cases g2:sl.drop (sl.length-3)=Ea.gd
  .rw[D0 (λh=>h g1),D0 (λh=>h g2)]
   rw[show Ea.rdK 67 sl=Ea.rd8 sl from rfl]
   unfold Ea.rd8
   cases h1:Ea.rcg false 0 0 4 (sl.drop 3)with
   |none=>rw[TT g1 g2 (.inl h1)];rfl
   |some p=>
    obtain⟨l,u⟩:=p
    cases h2:Ea.rcg false 2 0 4 (sl.drop 36)with
    |none=>rw[TT g1 g2 (.inr (.inl h2))];rfl
    |some q=>obtain⟨r,v⟩:=q;dsimp only;by_cases hm:(sl.drop 31).take 5=Ea.md;(·have hh:=cZ g1 g2 h1 h2 hm;obtain⟨k1,k2,k3,k4⟩:=LZ hh C0;rw[G0 hm,hh];unfold XI;rw[D0 L0];dsimp only;have Yk:=BW (k:=2) (l:=l++r) I0 k1 (by rw[k2];rfl) (λe=>by cases e);rw[D0 (show¬(2:Int)=4 by decide)]at Yk;rw[show Ea.kindOf 67=2 from rfl,Yk];by_cases hg:Ea.Ap (l++r);(·exact dD);·exact BX);·rw[TT g1 g2 (.inr (.inr hm)),D0 hm];rfl
  .have hh:halv false 0 4 sl=(([],[]),20):=dC;rw[D0 (λh=>h g1),G0 g2,hh];rfl
 .have hh:halv false 0 4 sl=(([],[]),19):=(by unfold halv;rw[G0 g1]);rw[G0 g1,hh];rfl
end Go.Proofs.Enc
namespace Go.Proofs.Enc
open Go.Proofs.Tryz
open Go.RowKit
def X5{w w':World}{x y z:Value}{t:TypeId}(h:Ext (w.alloc (.cells #[x,y,z] t)) w'):
 w.heap.size<w'.heap.size/\w'.cell? ⟨w.heap.size,0,none⟩=some x/\w'.cell? ⟨w.heap.size,1,none⟩=some y/\w'.cell? ⟨w.heap.size,2,none⟩=some z/\
  w'.frozen? ⟨w.heap.size,0,none⟩=false/\w'.frozen? ⟨w.heap.size,1,none⟩=false/\w'.frozen? ⟨w.heap.size,2,none⟩=false/\
  Hid (w'.heap[w.heap.size]? =some (.cells #[x,y,z] t (0,0))):=by
 have hs:=h.size
 have hlt:w.heap.size<(w.alloc (.cells #[x,y,z] t)).heap.size:=by simp
 have hb:w'.heap[w.heap.size]? =some (.cells #[x,y,z] t (0,0)):=by rw[h.block _ hlt];exact PC
 exact⟨by omega,Zv hb rfl,Zv hb rfl,Zv hb rfl,ZX hb,ZX hb,ZX hb,B0 hb⟩
def Zm{w:World}{b:Nat}{x y z p q r:Value}{t:TypeId}(h:Hid (w.heap[b]? =some (.cells #[x,y,z] t (0,0)))):
 (((w.setCell ⟨b,0,none⟩ p).setCell ⟨b,1,none⟩ q).setCell ⟨b,2,none⟩ r).heap[b]? =some (.cells #[p,q,r] t (0,0)):=
 Zt (Zt (Zt h.out))
def Zj{fn:Func}{p u:Tmp}(h:fn.results= #[.cell p 33,.tmp u]){tmps:Array Value}{w:World}{g:Nat}{t:TypeId}{x y z e:Value}
 (hp:tmps.getD p undef=.pointer (some ⟨g,0,none⟩))(hg:w.heap[g]? =some (.cells #[x,y,z] t (0,0)))(he:tmps.getD u undef=e):
 (results fn tmps).run prog w=.ok (.tuple #[.agg #[x,y,z],e]) w:=by
 rw[results_cell_tmp h,hp,he];simp only[asAddr,UG,UH];rw[BY w g t _ #[x,y,z] (0,0) _ hg underlying33 rfl N0];rfl
def Ext.before{w w':World}{o:Obj}(h:Ext (w.alloc o) w'):Ext w w':=((Ext.refl w).alloc o).trans h
def ZfW(s:ByteArray)(sl:List Bool)(hs:s.data.toList=Ea.mS sl)(hW:sl.length=67)(w:World):
 Calls prog 213 #[.string s] w λe w'=>e=.returned (symV (Ea.rdSym 67 sl))/\Ext w w':=by
 have HH:=B0 (λw=>Zg1 s sl hs hW w);rw[Zmn sl hW];obtain⟨⟨⟨l,u⟩,er⟩,hh⟩:∃r,halv false 0 4 sl=r:=⟨_,rfl⟩;rw[hh]at HH⊢;simp only[halV]at HH;have hk:er=0->Ea.o6 l=true/\l.length=2*4:=λh0=>by subst h0;obtain⟨a,b,_⟩:=LZ hh C0;exact⟨a,b⟩
 clear hs hW hh;by_cases h0:er=0
 .subst h0;obtain⟨hd,hl⟩:=hk rfl;have hR:=λw=>PK 2 (Ea.bS l) hd (.inr ⟨by decide,by rw[Zd (Ea.Bw l)];omega,by rw[Zd (Ea.Bw l)];omega⟩) w;rw[D0 (show¬(2:Int)=4 by decide),Ea.Bw]at hR;have HR:=B0 hR;clear hR hk hd hl;by_cases hg:Ea.Ap l;(·rw[C1 hg]at HR;have HG:Hid (XI ((l,u),0)=((2,l),0)):=B0 (by unfold XI;rw[D0 L0,G0 hg]);exact dE);·rw[G1 hg]at HR;have HG:Hid (XI ((l,u),0)=((0,[]),8)):=B0 (by unfold XI;rw[D0 L0,D0 hg]);exact dE
 .have HG:Hid (XI ((l,u),er)=((0,[]),er)):=B0 (by unfold XI;rw[G0 h0]);rw[HG.out];clear HG hk;unfold symV linV;dsimp only;generalize Ea.bS l=L at*;generalize Ea.bS (Ea.sS u)=U at*;have hb:(er !=0)=true:=R1.2 h0;go_enter func213,ntmps213;go_wp2_with fail;refine(HH.out _).mono ?_;rintro e w2 ⟨rfl,hx⟩;obtain⟨z0,z1,z2,z3,z4,z5,z6,HB⟩:=X5 hx;have n8:=hx.before;clear hx;go_wp2;refine J2 (Zj results213 rfl (Zm HB) rfl) rfl ?_;exact A7
end Go.Proofs.Enc
namespace Go.Proofs.Enc
open Go.Proofs.Tryz
open Go.RowKit
def PW{w:World}{b g:Nat}{o:Option Obj}{p q r:Value}(k7:b≠g)(h:Hid (w.heap[g]? =o)):
 Hid ((((w.setCell ⟨b,0,none⟩ p).setCell ⟨b,1,none⟩ q).setCell ⟨b,2,none⟩ r).heap[g]? =o):=by
 have e:∀(w:World)(i:Nat)(u:Value),(w.setCell ⟨b,i,none⟩ u).heap[g]? =w.heap[g]? :=λw i u=>by simp[World.setCell,RW,k7]
 exact B0 (by rw[e,e,e];exact h.out)
def ZgL(s:ByteArray)(sl:List Bool)(hs:s.data.toList=Ea.mS sl)(hW:sl.length=95)(w:World):
 Calls prog 212 #[.string s] w λe w'=>e=.returned (symV (Ea.rdSym 95 sl))/\Ext w w':=by
 have HH:=B0 (λw=>Zhr s sl hs hW w);rw[Zng sl hW];obtain⟨⟨⟨l,u⟩,er⟩,hh⟩:∃r,halv true 0 6 sl=r:=⟨_,rfl⟩;rw[hh]at HH⊢;simp only[halV]at HH;have hk:er=0->Ea.o6 l=true/\l.length=2*6/\∀x∈u,x<3:=λh0=>by subst h0;obtain⟨a,b,c,_⟩:=LZ hh C0;exact⟨a,b,c⟩
 clear hs hW hh;by_cases h0:er=0
 .subst h0
  obtain⟨hd,hl,hu⟩:=hk rfl
  have HLI:=B0 (Ea.aGx u hu)
  have Rv:(Ea.bS l).size<=12:=by rw[Zd (Ea.Bw l)];omega
  have Re:=B0 (And.intro hd hl)
  have Oo:Hid (∀d,Ea.Xp u=some d->d<10):=B0 (λd h=>(Ea.aDY h).1)
  obtain⟨Q,hQ⟩:∃Q,(Ea.Pu.map Value.string).toArray=Q:=⟨_,rfl⟩
  have Gy:Ea.Pu.length=10:=rfl
  have Rx:Q.size=10:=by rw[<-hQ];simp[Gy]
  have Ic:Hid (Q.all (·.oneCell')=true):=B0 BS
  have HQd:Hid (∀i,i<10->Q[i]? =some (.string (Ea.Pu.getD i ByteArray.empty))):=B0 (λi hi=>by rw[<-hQ];simp only[RI,B3];rw[P0 TS,F1,P0 TS];rfl)
  have Nv:=B0 Gy
  have Cp:=B0 (λw=>aR w)
  unfold arrV at Cp
  rw[hQ]at Cp
  clear hk hQ Gy hu hd hl
  obtain⟨res,j7⟩:∃res,YB ((l,u),0)=res:=⟨_,rfl⟩
  rw[j7]
  have Iv:=B0 j7
  clear j7
  obtain⟨L,hL⟩:∃L,Ea.bS l=L:=⟨_,rfl⟩
  have HL:=B0 hL
  obtain⟨U,hU⟩:∃U,Ea.bS (Ea.sS u)=U:=⟨_,rfl⟩
  rw[hL]at HH Rv
  rw[hU]at HH HLI
  clear hL hU
  go_enter func212,ntmps212
  go_wp2_with fail
  refine(HH.out _).mono ?_
  rintro e w1 ⟨rfl,b7⟩
  go_wp2_with fail
  refine(Cp.out _).mono ?_
  rintro e w4 ⟨rfl,j9⟩
  have p9:=TA Q Rx Ic.out w4
  have Rf:=B0 (λi hi=>R7 Q 210 w4 (HQd.out i hi))
  go_wp2_with fail
  obtain⟨w5,Ek⟩:∃w5,w4.alloc (.cells Q 210)=w5:=⟨_,rfl⟩
  have o4:w4.heap.size<w5.heap.size:=by rw[<-Ek];simp
  have j5:=(b7.trans j9).alloc (.cells Q 210)
  rw[Ek]at j5
  rw[Ek]at Rf⊢
  clear b7 j9
  have IX:=B0 (Tryz.slices_Index_string w4.heap.size 0 10 10 Ea.Pu U w5 PQ C0 (λi hi=>by rw[Nat.zero_add];exact Rf.out i BT))
  rw[show Ea.Pu.take 10=Ea.Pu from rfl,HLI.out]at IX
  clear p9 Ek Rf Nv HQd Ic HLI
  cases hf:Ea.Xp u with
  |none=>rw[hf]at IX;simp only[Ea.plcO]at IX;have HG:Hid (res=((0,[]),18)):=B0 (by rw[<-Iv.out];unfold YB;rw[D0 L0];dsimp only;rw[hf]);clear hf Oo;refine IX.out.mono ?_;rintro e w8 ⟨rfl,rfl⟩;have hx:=j5;obtain⟨z0,z1,z2,z3,z4,z5,z6,HB⟩:=X5 hx;have n8:=hx.before;clear j5 hx;exact dF
  |some d=>rw[hf]at IX;simp only[Ea.plcO]at IX;have Se:=Oo.out d hf;have HF:=B0 hf;clear hf Oo;refine IX.out.mono ?_;rintro e w8 ⟨rfl,rfl⟩;have Am:(Utf8.encode (48+(d:Int))).data.toList=[Ea.chr d]:=cP;have p8:(Utf8.encode (48+(d:Int))).size=1:=Zd Am;obtain⟨CD,Pb⟩:∃CD,Utf8.encode (48+(d:Int))=CD:=⟨_,rfl⟩;rw[Pb]at Am p8;(have IZ:∀w,(convert 21 9 (.int .i32 (48+(d:Int)))).run prog w=.ok (.string CD) w:=λw=>by rw[<-Pb];exact PR w _ _ _ _ N0 underlying9);have Ke:Hid (CD++L=Ea.bS (Ea.chr d::l)):=B0 (by apply Zi;rw[A4,B4,Am,<-HL.out];rfl);have HR:=B0 (λw=>PK 1 (Ea.bS (Ea.chr d::l)) (Ea.Vk (PV Se) Re.out.1) (.inr ⟨by decide,by rw[Zd (Ea.Bw _),B1,Re.out.2];omega,by rw[Zd (Ea.Bw _),B1,Re.out.2];omega⟩) w);rw[D0 (show¬(1:Int)=4 by decide),Ea.Bw,<-Ke.out]at HR;clear Am Pb;by_cases hg:Ea.Ap (Ea.chr d::l);(·rw[C1 hg]at HR;by_cases Fg:d=0;(·have HG:Hid (res=((3,l),0)):=B0 (by rw[<-Iv.out];unfold YB;rw[D0 L0];dsimp only;rw[HF.out];dsimp only;rw[G0 hg,G0 Fg]);have Sb:((d:Int)==0)=true:=(by rw[Fg];rfl);clear hg Fg;go_wp2_with fail;refine(HR.out _).mono ?_;rintro e w9 ⟨rfl,Bj⟩;have hx:=(j5.alloc _).trans Bj;have hlt:w.heap.size<w8.heap.size:=BZ;obtain⟨z0,z1,z2,z3,z4,z5,z6,HB⟩:=X5 hx;obtain⟨y0,y1,y2,y3,y4,y5,y6,HC⟩:=X5 Bj;have n8:=hx.before;clear j5 hx Bj;have Fm:Hid (w8.heap.size≠w.heap.size/\w.heap.size<=w8.heap.size):=B0 ⟨by omega,by omega⟩;go_wp2;refine J2 (Zj results212 rfl (Zm (PW Fm.out.1 HB)) rfl) rfl ?_;have HX:=(((n8.setCell (p:=⟨w8.heap.size,0,none⟩) Fm.out.2 (.int .i64 3)).setCell (p:=⟨w8.heap.size,1,none⟩) Fm.out.2 (.string L)).setCell (p:=⟨w8.heap.size,2,none⟩) Fm.out.2 (.string ⟨#[]⟩));exact⟨by rw[HG.out];unfold symV linV;dsimp only;rw[HL.out];rfl,((HX.setCell (J0 _) _).setCell (J0 _) _).setCell (J0 _) _⟩);·have HG:Hid (res=((1,Ea.chr d::l),0)):=B0 (by rw[<-Iv.out];unfold YB;rw[D0 L0];dsimp only;rw[HF.out];dsimp only;rw[G0 hg,D0 Fg]);have Sb:((d:Int)==0)=false:=QJ;clear hg Fg;go_wp2_with fail;refine(HR.out _).mono ?_;rintro e w9 ⟨rfl,Bj⟩;have hx:=(j5.alloc _).trans Bj;have hlt:w.heap.size<w8.heap.size:=BZ;obtain⟨z0,z1,z2,z3,z4,z5,z6,HB⟩:=X5 hx;obtain⟨y0,y1,y2,y3,y4,y5,y6,HC⟩:=X5 Bj;have n8:=hx.before;clear j5 hx Bj;go_wp2;refine J2 (Zj results212 rfl (Zm HB) rfl) rfl ?_;exact dG);·rw[G1 hg]at HR;have HG:Hid (res=((0,[]),8)):=B0 (by rw[<-Iv.out];unfold YB;rw[D0 L0];dsimp only;rw[HF.out];dsimp only;rw[D0 hg]);clear hg;go_wp2_with fail;refine(HR.out _).mono ?_;rintro e w9 ⟨rfl,Bj⟩;have hx:=(j5.alloc _).trans Bj;have hlt:w.heap.size<w8.heap.size:=BZ;obtain⟨z0,z1,z2,z3,z4,z5,z6,HB⟩:=X5 hx;obtain⟨y0,y1,y2,y3,y4,y5,y6,HC⟩:=X5 Bj;have n8:=hx.before;clear j5 hx Bj;exact dF
 .have HG:Hid (YB ((l,u),er)=((0,[]),er)):=B0 (by unfold YB;rw[G0 h0]);rw[HG.out];clear HG hk;unfold symV linV;dsimp only;generalize Ea.bS l=L at*;generalize Ea.bS (Ea.sS u)=U at*;have hb:(er !=0)=true:=R1.2 h0;go_enter func212,ntmps212;go_wp2_with fail;refine(HH.out _).mono ?_;rintro e w2 ⟨rfl,hx⟩;obtain⟨z0,z1,z2,z3,z4,z5,z6,HB⟩:=X5 hx;have n8:=hx.before;clear hx;go_wp2;refine J2 (Zj results212 rfl (Zm HB) rfl) rfl ?_;exact A7
end Go.Proofs.Enc
end
