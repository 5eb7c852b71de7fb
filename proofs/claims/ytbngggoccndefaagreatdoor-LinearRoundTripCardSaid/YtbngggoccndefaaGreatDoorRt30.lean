/-
  Laid.
-/
import Derived.Test.YtbngggoccndefaaGreatDoorRt18
import Derived.Handy
set_option maxHeartbeats 8000000
set_option maxRecDepth 100000
set_option linter.all false
namespace Go.Proofs.YtbngggoccndefaaGreatDoor
open Go.Proofs.Tryz
section
open Go.RowKit
def arrV (l:List ByteArray):Value:=.agg (l.map Value.string).toArray
theorem qV (t:Nat) (ht:t<3) (w:World):Calls prog 181 #[.int .u8 ((65+t:Nat):Int)] w fun e w'=>e=.returned (arrV (Ea.rowB t))∧Ext w w':=by
 have h:t=0∨t=1∨t=2:=by omega
 rcases h with rfl|rfl|rfl;·go_enter func181,ntmps181;go_wp2;go_returns;exact U5
 ·go_enter func181,ntmps181;go_wp2;go_returns;exact U5
 ·go_enter func181,ntmps181;go_wp2;go_returns;exact U5
theorem qW (w:World):Calls prog 179 #[] w fun e w'=>e=.returned (arrV Ea.leftB)∧Ext w w':=by go_enter func179,ntmps179;go_wp2;go_returns;exact U5
theorem dW (c:Int) (h:(c==49)=false) (w:World):Calls prog 180 #[.int .u8 c] w fun e w'=>e=.returned (arrV (Ea.compB 0))∧Ext w w':=by go_enter func180,ntmps180;go_wp2;go_returns;exact U5
theorem PL (v:Value) (m:List Bool) (w:World) (hv:SlK w v (m.map encT)) (hm:m.length<=1000000):
 Calls prog 42 #[v] w fun e w'=>e=.returned (.tuple #[.int .i64 (Ea.ldg m:Int),.int .i64 (Ea.trl m:Int)])∧w=w':=by
 obtain⟨hsl,a,c,rfl,_⟩:=hv
 rw[N0]at hsl⊢
 have HV:=B0 hsl
 clear hsl
 go_enter func42,ntmps42
 go_wp2
 go_loop [2] (fun i=>∃k:Nat,k<=m.length∧i=.int .i64 (k:Int)∧Hid (Ea.ldg (m.drop k)+k=Ea.ldg m)) (fun i=>m.length-(intOf i).toNat)
 case atStart=>exact WC
 case round=>
  obtain⟨k,hk,rfl,hl⟩:=hrel;by_cases hlt:k<m.length
  ·obtain⟨bb0,off0,ha0,hbl0,hc00⟩:=HV.out.at_ (k:=k) (by rw[N0];exact hlt)
   subst ha0
   rw[H8]at hc00
   unfold encT at hc00
   obtain⟨b,hb⟩:∃b,m[k]=b:=⟨_,rfl⟩
   rw[hb]at hc00
   have hl2:=hl.out
   rw[G4 hlt,hb]at hl2
   have HL2:=B0 hl2
   clear hl2 hl hb
   cases b with
   |true=>
    have HL:Hid (((Ea.ldg m:Nat):Int)=(k:Int)):=B0 (by have:=HL2.out;simp only[Ea.ldg,R4]at this;omega);clear HL2;go_wp2;go_loop [3] (fun i=>∃j:Nat,j<=m.length∧i=.int .i64 (j:Int)∧Hid (Ea.ldg (m.reverse.drop j)+j=Ea.trl m)) (fun i=>m.length-(intOf i).toNat);(case atStart=>exact WC);case round=>
     obtain⟨j,hj,rfl,hr⟩:=hrel;by_cases hlj:j<m.length
     ·obtain⟨bb,off,ha,hbl,hc0⟩:=HV.out.at_ (k:=m.length-1-j) D5
      simp only[A2,Addr.mk.injEq,F5]at ha
      obtain⟨rfl,rfl⟩:=ha
      rw[H8]at hc0
      unfold encT at hc0
      obtain⟨b,hb⟩:∃b,m[m.length-1-j]' C0=b:=⟨_,rfl⟩
      rw[hb]at hc0
      have hi:(m.length:Int)-1-(j:Int)=((m.length-1-j:Nat):Int):=by omega
      have hil:m.length-1-j<m.length:=by omega
      have HRV:Hid (m.reverse.drop j=b::m.reverse.drop (j+1)):=B0 qX
      have hr2:=hr.out
      rw[HRV.out]at hr2
      have HR2:=B0 hr2
      clear hr2 hr hb HRV
      obtain⟨ix,hix⟩:∃ix,m.length-1-j=ix:=⟨_,rfl⟩
      rw[hix]at hc0 hi hil
      clear hix
      cases b with
      |true=>exact qY
      |false=>exact qZ
     ·exact Q9
   |false=>have HE:Hid (Ea.ldg (m.drop (k+1))+(k+1)=Ea.ldg m):=B0 (by have:=HL2.out;simp only[Ea.ldg,PM,I7]at this;omega);clear HL2;go_wp2;go_round;(case rel=>exact⟨k+1,by omega,by go_num,HE⟩);case measure=>exact QD
  ·obtain rfl:k=m.length:=C0;have HL:Hid (((Ea.ldg m:Nat):Int)=(m.length:Int)):=B0 (by have:=hl.out;rw[J5 (I0 _)]at this;simp only[Ea.ldg]at this;omega);clear hk hlt hl;go_wp2;go_loop [3] (fun i=>∃j:Nat,j<=m.length∧i=.int .i64 (j:Int)∧Hid (Ea.ldg (m.reverse.drop j)+j=Ea.trl m)) (fun i=>m.length-(intOf i).toNat);(case atStart=>exact WC);case round=>
    obtain⟨j,hj,rfl,hr⟩:=hrel;by_cases hlj:j<m.length
    ·obtain⟨bb,off,ha,hbl,hc0⟩:=HV.out.at_ (k:=m.length-1-j) D5
     subst ha
     rw[H8]at hc0
     unfold encT at hc0
     obtain⟨b,hb⟩:∃b,m[m.length-1-j]' C0=b:=⟨_,rfl⟩
     rw[hb]at hc0
     have hi:(m.length:Int)-1-(j:Int)=((m.length-1-j:Nat):Int):=by omega
     have hil:m.length-1-j<m.length:=by omega
     have HRV:Hid (m.reverse.drop j=b::m.reverse.drop (j+1)):=B0 qX
     have hr2:=hr.out
     rw[HRV.out]at hr2
     have HR2:=B0 hr2
     clear hr2 hr hb HRV
     obtain⟨ix,hix⟩:∃ix,m.length-1-j=ix:=⟨_,rfl⟩
     rw[hix]at hc0 hi hil
     clear hix
     cases b with
     |true=>exact qY
     |false=>exact qZ
    ·exact Q9
attribute [local go_sem] Oper.semAt_some
theorem dX (a:Option Addr) (n c:Nat) (w:World):
 Calls prog 85 #[.slice a n c] w fun e w'=>e=.returned (.func (.func 152) #[] #[.pointer (some ⟨w.heap.size,0,none⟩)])∧w'=w.alloc (.cells #[.slice a n c] 26):=by
 have hmf:∀(fn:Fn) (first cap:Array Value) (w:World),(Instr.makeFunc fn first cap).run prog w=.ok (.func fn first cap) w:=fun _ _ _ _=>rfl
 go_enter func85,ntmps85
 go_wp2
 go_ret
 exact⟨rfl,rfl⟩
def ZD (n₀ Bn:Nat) (v:Value) (W W':World):Prop:=Below n₀ W W'∧(Boxed W Bn 26 v->Boxed W' Bn 26 v)
theorem ZD.t {n₀ Bn:Nat} {v:Value} {A B C:World} (h:ZD n₀ Bn v A B) (k:ZD n₀ Bn v B C):ZD n₀ Bn v A C:=⟨h.1.trans k.1,fun x=>k.2 (h.2 x)⟩
theorem ZD.b {n₀ Bn:Nat} {v:Value} {w:World} (hn:n₀<=w.heap.size) (W:World) (l:Nat) (o o':Obj) (hl:w.heap.size<=l) (h:W.heap[l]? =some o) (h1:o.isCells=false) (h2:o.isWalk=false):ZD n₀ Bn v W (W.putObj l o'):=
 ⟨belowK_b hn W l o o' hl h h1 h2,fun x=>x.kept (grownBy_putObj' W l o') (fun e=>by injection e with e;subst e;rw[show W.heap[Bn]? =_ from x]at h;injection h with h;subst h;cases h1)⟩
theorem ZD.ext {n₀ Bn:Nat} {v:Value} {W W':World} (hn:n₀<=W.heap.size) (h:Ext W W'):ZD n₀ Bn v W W':=⟨Below.mono h hn,fun x=>x.kept h.asGrown L0⟩
theorem dY (n:Nat) (hn:1<=n) (l Bn n₀:Nat) (v:Value) (m:List Bool) (hm:m.length<=1000000) (w0:World) (hv:SlK w0 v (m.map encT)) (hw0:w0.heap.size<=n₀) (J Jx:List Nat->World->Prop)
 (hY:∀(pre:List Nat) (x:Nat) (W:World),J pre W->pre.length<m.length->YieldAt Fence.wide (n-1) prog l #[.int .i64 (x:Int)] W fun e W'=>(e=.returned (.bool true)∧J (pre++[x]) W'∧ZD n₀ Bn v W W')∨(e=.returned (.bool false)∧Jx (pre++[x]) W'))
 (W:World) (hX:Ext w0 W) (hn0:n₀<=W.heap.size) (hBn:Boxed W Bn 26 v) (hJn:AbidesFrom W.heap.size J) (h0:J [] W):
 CallsIn Fence.wide n prog 152 #[.func (.yield l) #[] #[],.pointer (some ⟨Bn,0,none⟩)] W fun e W'=>(∃v,e=.returned v)∧
  ((∃ys,ys=Rn.widthsN m∧J ys W')∨(∃pre,pre<+:Rn.widthsN m∧Jx pre W')):=by
 have hvW:=hv.ext hX
 have HMG:=B0 (PL v m W hvW hm)
 obtain⟨hsl,a,c,rfl,-⟩:=hv
 rw[N0]at hsl HMG hBn
 obtain⟨nn,hnn⟩:∃nn,nn=m.length:=⟨_,rfl⟩
 obtain⟨hla,hlb⟩:=Rn.ldg_len m
 have hrc:=Rn.rest_core m
 simp only[N0]at hY
 simp only[<-hnn]at hY
 rw[<-hnn]at hsl HMG hm hla hlb hrc hBn
 obtain⟨A,hA⟩:∃A,A=Ea.ldg m:=⟨_,rfl⟩
 obtain⟨B,hB⟩:∃B,B=Ea.trl m:=⟨_,rfl⟩
 rw[<-hA]at HMG hla hrc
 rw[<-hB]at HMG hlb hrc
 have hne:A=nn∨(A<nn∧A+B<nn):=by rcases Rn.row_split m with⟨_,_,h3,_⟩|⟨q,h1,_,h3⟩;(·left;rw[hA,h3,hnn]);·right;have h4:=R0 List.length h3;rw[O0,O0,C3,C3,h1,S0]at h4;omega
 obtain⟨E,hE⟩:∃E,E=nn-B:=⟨_,rfl⟩
 rw[<-hE]at hrc
 have hEI:(nn:Int)-(B:Int)=(E:Int):=by omega
 have hEn:E<=nn:=by omega
 have HV:=B0 hsl
 have HRC:=B0 hrc
 have HY:=B0 hY
 have HJ:=B0 hJn
 have HTL:Hid ((m.take E).length=E):=B0 O5
 have HTE:Hid (∀(i:Nat) (b:Bool),(m.take E)[i]? =some b->m[i]? =some b):=B0 (fun i b h=>by rw[XX]at h;split at h;(·exact h);·cases h)
 generalize Rn.widthsN m=res at*
 generalize m.take E=mE at*
 have H0:=B0 h0
 have HX:=B0 hX
 clear hnn hsl hrc hA hB hE hlb hY hJn h0 hX
 have hbn:=hBn.cell
 refine callsIn_of_wp func152 rfl trivial ?_ rfl
 simp only[ntmps152,List.size_toArray,S0,U2,Nat.reduceAdd,Nat.reduceSub,Array.replicate_succ,Array.replicate_zero,List.push_toArray,List.append_toArray,E4,P2]
 rcases hne with hne|⟨hne,hAB⟩
 ·have zA:((A:Int)==(nn:Int))=true:=C2.2 C0
  gi_wp2_with fail
  refine⟨trivial,?_⟩
  refine(PN.2 HMG.out).mono ?_
  rintro e w1 ⟨rfl,rfl⟩
  gi_wp2
  refine R1 (RJ rfl _ _ _) rfl ?_
  exact⟨⟨_,rfl⟩,.inl ⟨[],by rw[HRC.out,J5 (by rw[HTL.out];omega)];rfl,H0.out⟩⟩
 ·have zA:((A:Int)==(nn:Int))=false:=V0.2 C0
  have hAE:A<E:=by omega
  gi_wp2_with fail
  refine⟨trivial,?_⟩
  refine(PN.2 HMG.out).mono ?_
  rintro e w1 ⟨rfl,rfl⟩
  gi_wp2_with fail
  gi_loopw [6,7] (fun s k wr=>∃(st i:Nat) (pre:List Nat),s=.int .i64 (st:Int)∧k=.int .i64 (i:Int)∧st<i∧i<=E+1∧pre.length<=st∧Hid (res=pre++(if i<=E then Rn.rest (i-1-st) (mE.drop (i-1))else []))∧Hid (mE[st]? =mE[i-1]?∨i=E+1)∧Hid (J pre wr)∧Hid (Below n₀ W wr)∧Hid (Boxed wr Bn 26 (.slice a nn c))) (fun _ k _=>E+1-(intOf k).toNat)
  case atStart=>exact⟨A,A+1,[],rfl,by go_num,by omega,by omega,U0 _,B0 (by rw[G0 C0,HRC.out,WE,O3];rfl),B0 (.inl rfl),H0,B0 (R9 _ _),B0 hBn⟩
  case round=>
   obtain⟨st,i,pre,rfl,rfl,hsi,hiE,hpl,HR,HS,HJp,HB,HBX⟩:=hrel;have hXw:Ext w0 wr:=W7 (B:=w0.heap.size) HX.out (HB.out.mono hw0);have hsw:n₀<=wr.heap.size:=L3 hn0 HB.out.size;have hbx:=HBX.out.cell;by_cases hle:i<=E
   ·have hleI:(i:Int)<=(E:Int):=C0;obtain⟨cb,hcb⟩:∃cb,mE[i-1]? =some cb:=⟨_,P0 (by rw[HTL.out];omega)⟩;have hst:mE[st]? =some cb:=(by rcases HS.out with h|h;(·rw[h,hcb]);·omega);have hdi:mE.drop (i-1)=cb::mE.drop i:=(by obtain⟨h1,h2⟩:=J1.1 hcb;rw[G4 h1,h2,show i-1+1=i by omega]);have hrr:=HR.out;rw[G0 hle,hdi]at hrr;obtain⟨x,hx⟩:∃x,x=i-1-st+1:=⟨_,rfl⟩;have hxI:(i:Int)-(st:Int)=(x:Int):=C0;have hpn:pre.length<nn:=C0;have hpl2:(pre++[x]).length<=i:=PO;by_cases hlt:i<E
    ·have hltI:(i:Int)<(E:Int):=C0;obtain⟨db,hdb⟩:∃db,mE[i]? =some db:=⟨_,P0 (by rw[HTL.out];omega)⟩;have hdj:mE.drop i=db::mE.drop (i+1):=(by obtain⟨h1,h2⟩:=J1.1 hdb;rw[G4 h1,h2]);obtain⟨b,o,ha,hb,c0⟩:=HV.out.bool_at hXw (HTE.out _ _ hst);subst ha;obtain⟨b',o',ha',hb',c1⟩:=HV.out.bool_at hXw (HTE.out _ _ hdb);injection ha' with ha';injection ha' with h1 h2;subst h1 h2;have hin:(i:Int)<(nn:Int):=C0;have hsn:(st:Int)<(nn:Int):=C0;rw[hdj,Rn.rest_two,<-hx]at hrr;by_cases hd:db=cb
     ·have HR2:Hid (res=pre++(if i+1<=E then Rn.rest (i+1-1-st) (mE.drop (i+1-1))else [])):=B0 (by rw[G0 C0,hrr,G0 hd,WE,hdj,show i-st=x by omega])
      have HS2:Hid (mE[st]? =mE[i+1-1]?∨i+1=E+1):=B0 (.inl (by rw[WE,hst,hdb,hd]))
      subst hd
      have hd9:decide ((i:Int)<(E:Int))=true:=F1 hltI
      clear hcb hst hdi hrr hdb hdj hx hle hlt HR HS hpl2
      gi_wp2_with fail
      gi_quiet_th (fail)
      have HJq:Hid (J pre (wr.drewN nq)):=B0 (HJ.out _ _ _ none HJp.out (Ext.asGrown ((Ext.refl _).drewN _)) (fun r e=>by cases e))
      have HBq:Hid (Below n₀ W (wr.drewN nq)):=B0 (W7 HB.out (Below.mono ((Ext.refl wr).drewN nq) hsw))
      have HBXq:Hid (Boxed (wr.drewN nq) Bn 26 _):=B0 (HBX.out.kept (Ext.asGrown ((Ext.refl wr).drewN nq)) L0)
      clear HJp HB HBX
      gi_wp2
      go_roundw
      case rel=>exact⟨st,i+1,pre,rfl,by go_num,by omega,by omega,hpl,HR2,HS2,HJq,HBq,HBXq⟩
      case measure=>exact Qr
     ·have zd:(db==cb)=false:=by cases db<;>cases cb<;>first|rfl|exact absurd rfl hd
      rw[D0 hd]at hrr
      have HRE:Hid ((pre++[x])++Rn.rest 0 (db::mE.drop (i+1))=res):=B0 (by rw[hrr,G1];rfl)
      have HR2:Hid (res=(pre++[x])++(if i+1<=E then Rn.rest (i+1-1-i) (mE.drop (i+1-1))else [])):=B0 (by rw[G0 C0,<-HRE.out,WE,O3,hdj])
      have HS2:Hid (mE[i]? =mE[i+1-1]?∨i+1=E+1):=B0 (.inl rfl)
      have hd9:decide ((i:Int)<(E:Int))=true:=F1 hltI
      clear hcb hst hdi hrr hdb hdj hx hle hlt HR HS hd
      gi_wp2_with fail
      gi_quiet_th (fail)
      obtain⟨fn,tmps,assign,body,hy,hR⟩:=HY.out pre x (wr.drewN nq) (HJ.out _ _ _ none HJp.out (Ext.asGrown ((Ext.refl _).drewN _)) (fun r e=>by cases e)) hpn
      gi_wp2
      refine hR.mono ?_
      rintro e W3 (⟨rfl,hJ3,hk3⟩|⟨rfl,hJx3⟩)
      ·have HJ3:=B0 hJ3
       have HK3:=(ZD.ext hsw ((Ext.refl wr).drewN nq)).t hk3
       have HB3:=B0 (W7 HB.out HK3.1)
       have HBX3:=B0 (HK3.2 HBX.out)
       clear HK3
       clear hJ3 hk3 hR hy HJp HB HBX
       gi_wp2
       go_roundw
       case rel=>exact xA
       case measure=>exact Qr
      ·have HJ3:=B0 hJx3
       clear hJx3 hR hy HJp HB HBX
       gi_wp2
       refine R1 (RJ rfl _ _ _) rfl ?_
       exact⟨⟨_,rfl⟩,.inr ⟨pre++[x],⟨_,HRE.out⟩,HJ3.out⟩⟩
    ·obtain rfl:i=E:=by omega
     have h0:mE.drop i=[]:=J5 (by rw[HTL.out];exact I0 _)
     rw[h0,Rn.rest_one,<-hx]at hrr
     have HRE:Hid ((pre++[x])++[]=res):=B0 (by rw[hrr,B3])
     have HR2:Hid (res=(pre++[x])++(if i+1<=i then Rn.rest (i+1-1-i) (mE.drop (i+1-1))else [])):=B0 (by rw[D0 C0,hrr,B3])
     have HS2:Hid (mE[i]? =mE[i+1-1]?∨i+1=i+1):=B0 (.inr rfl)
     have hd9:decide ((i:Int)<(i:Int))=false:=D1 C0
     clear hcb hst hdi hrr hx hle hlt HR HS h0
     gi_wp2_with fail
     gi_quiet_th (fail)
     obtain⟨fn,tmps,assign,body,hy,hR⟩:=HY.out pre x (wr.drewN nq) (HJ.out _ _ _ none HJp.out (Ext.asGrown ((Ext.refl _).drewN _)) (fun r e=>by cases e)) hpn
     gi_wp2
     refine hR.mono ?_
     rintro e W3 (⟨rfl,hJ3,hk3⟩|⟨rfl,hJx3⟩)
     ·have HJ3:=B0 hJ3
      have HK3:=(ZD.ext hsw ((Ext.refl wr).drewN nq)).t hk3
      have HB3:=B0 (W7 HB.out HK3.1)
      have HBX3:=B0 (HK3.2 HBX.out)
      clear HK3
      clear hJ3 hk3 hR hy HJp HB HBX
      gi_wp2
      go_roundw
      case rel=>exact xA
      case measure=>exact Qr
     ·have HJ3:=B0 hJx3
      clear hJx3 hR hy HJp HB HBX
      gi_wp2
      refine R1 (RJ rfl _ _ _) rfl ?_
      exact⟨⟨_,rfl⟩,.inr ⟨pre++[x],⟨_,HRE.out⟩,HJ3.out⟩⟩
   ·obtain rfl:i=E+1:=by omega
    have HRF:Hid (pre=res):=B0 (by rw[HR.out,D0 C0,B3])
    clear hle HR HS
    gi_wp2
    go_end0
    exact⟨⟨_,rfl⟩,.inl ⟨pre,HRF.out,HJp.out⟩⟩
theorem dZ (n:Nat) (hn:1<=n) (Bn n₀:Nat) (v:Value) (m:List Bool) (hm:m.length<=1000000) (w0 w:World) (hv:SlK w0 v (m.map encT)) (hw0:w0.heap.size<=n₀) (hX:Ext w0 w) (hn0:n₀<=w.heap.size) (hBn:Boxed w Bn 26 v):
 SeqStopsK Fence.wide n prog 152 #[.pointer (some ⟨Bn,0,none⟩)] (fun x:Nat=> #[Value.int .i64 (x:Int)]) (ZD n₀ Bn v) (fun ys=>ys=Rn.widthsN m) (fun pre=>pre<+:Rn.widthsN m) m.length w:=fun l J Jx W hW hJ _ hY h0=>
 dY n hn l Bn n₀ v m hm w0 hv hw0 J Jx hY W (hX.trans hW) (L3 hn0 hW.size) (hBn.kept (Ext.asGrown hW) L0) hJ h0
theorem Rn.infoI:(prog.info? 3).map (fun i=>(i.zero,i.size,i.bytes))=some (some (.int .i64 0),1,8):=Y0
theorem KX (v:Value) (m:List Bool) (w:World) (hv:SlK w v (m.map encT)) (hm:m.length<=1000000):
 Calls prog 41 #[v] w fun e w'=>∃u,e=.returned u∧SlK w' u ((Rn.widths m).map encI)∧Ext w w':=by
 obtain⟨i0,hi,hz0,hz1,hz2⟩:=C5 Rn.infoI
 obtain⟨hsl,a,c,hvv,hcc⟩:=id hv
 refine(PN (n:=4)).1 ?_
 refine callsIn_of_wp_marks func41 rfl trivial ?_ rfl
 simp only[ntmps41,List.size_toArray,S0,U2,Nat.reduceAdd,Nat.reduceSub,Array.replicate_succ,Array.replicate_zero,List.push_toArray,List.append_toArray,E4,P2]
 subst hvv
 gi_wp2_with fail
 refine⟨trivial,?_⟩
 refine(PN.2 (dX _ _ _ _)).mono ?_
 rintro e w1 ⟨rfl,rfl⟩
 gi_wp2_with fail
 have bO:=Boxed.new w 43 (.slice none 0 0)
 have bN:=Boxed.new (w.alloc (.cells #[.slice none 0 0] 43)) 26 (.slice a (m.map encT).length c)
 rw[WG]at bN
 have hB0:Below w.heap.size w ((w.alloc (.cells #[.slice none 0 0] 43)).alloc (.cells #[.slice a (m.map encT).length c] 26)):=((R9 _ w).alloc (I0 _) _).alloc L0 _
 have hsz0:((w.alloc (.cells #[.slice none 0 0] 43)).alloc (.cells #[.slice a (m.map encT).length c] 26)).heap.size=w.heap.size+2:=by simp
 obtain⟨W0,hW0⟩:∃W0,W0=(w.alloc (.cells #[.slice none 0 0] 43)).alloc (.cells #[.slice a (m.map encT).length c] 26):=⟨_,rfl⟩
 rw[<-hW0]at bN hB0 hsz0
 have bO2:Boxed W0 w.heap.size 43 (.slice none 0 0):=by rw[hW0];exact bO.alloc _
 simp only[N0]at hW0 bN
 try simp only[N0]
 rw[<-hW0]
 refine wpIn_rangeFunc_ownG rfl C0 (gf:=152) (lb:= #[.pointer (some ⟨w.heap.size+1,0,none⟩)]) rfl trivial (enters_of func152 M0 rfl)
  (dZ 3 C0 (w.heap.size+1) w.heap.size _ m hm w W0 hv (I0 _) hB0 C0 (by rw[N0];exact bN)) ZD.t (ZD.b C0) (R9 _ _) (fun _=>rfl)
  (fun pre W=>(∃v,Boxed W w.heap.size 43 v∧W.ownsRow w.heap.size 3 1 v pre.length (pre.map fun(x:Nat)=>Value.int .i64 (x:Int))∧True)∧Below w.heap.size W0 W)
  (fun _ _ _=>False)
  (OwnFrom.and (Own.from (holdsRow_own w.heap.size w.heap.size 43 3 1 (fun pre:List Nat=>pre.length) (fun pre=>pre.map fun(x:Nat)=>Value.int .i64 (x:Int)) (fun _ _=>True)) _) (ownFrom_below C0 C0))
  (fun _ _ _ _ _ hs _ _=>hs)
  ⟨⟨_,bO2,VM _ _ _ _,trivial⟩,R9 _ _⟩
  (fun x=> {tmps:= #[.slice a m.length c,undef,.slice none 0 0,.pointer (some ⟨w.heap.size,0,none⟩),.int .i64 (x:Int),.slice a m.length c,.func (.func 152) #[] #[.pointer (some ⟨w.heap.size+1,0,none⟩)],.int .i64 (x:Int),undef,undef,undef,undef,undef],defers:=[]}) ?assign ?body ?done ?stop
 case assign=>
  intro l x W K hK
  gi_wp2
  exact hK
 case body=>
  rintro l pre x W ⟨⟨v,hv,hrow,-⟩,hB⟩ hlt
  have hc:=hv.cell
  have hmx:pre.length+1<=maxLen:=L3 (m:=1000001) C0 J0
  have hmb:(pre.length+1)*8<=140737488355328:=by omega
  have hsw:w.heap.size<=W.heap.size:=by have:=hB.size;omega
  gi_wp2_with (gi_at_builtin;refine wpListIn_append_own _ rfl _ _ 43 rfl w.heap.size 3 i0 (.int .i64 0) 1 8 underlying43 hi hz0 hz1 hz2 rfl J0 _ _ _ rfl (hrow.alloc _) ⟨W.heap.size,0,none⟩ 1 1 [.int .i64 (x:Int)] rfl rfl (cell_one_new _ _ _) (by simp[Value.oneCell']) hmx hmb (by rw[WG];omega) ?_;intro v' w1 hown' hgrow _;obtain⟨g',cap',rfl⟩:=ownsRow_succ hown';obtain⟨hv1,hv2,hr2,hk2,hb2⟩:=hv.appended J0 hrow hsw (I0 _) hown' hgrow;have hc1:=hv1.cell;have hf1:=hv1.frozen;have hbx2:=fun(x:Boxed W (w.heap.size+1) 26 (.slice a m.length c))=>(((x.alloc _).kept hgrow (x.not_row J0 hrow)).kept (grownBy_setCell' w1 w.heap.size (.slice (some ⟨g',0,none⟩) (pre.length+1) cap')) L0))
  refine⟨hk2.from _,⟨hb2,by rw[N0];exact hbx2⟩,⟨_,hv2,by simpa using hr2,trivial⟩,hB.trans hb2⟩
 case done=>
  rintro D ys W hD rfl ⟨⟨v,hv,hrow,-⟩,hB⟩ hK
  have hc:=hv.cell
  gi_wp2
  refine⟨by simp,.inl ⟨_,_,rfl,run_takeDeferred hK,?_⟩⟩
  have hrow2:=ownsRow_putObj hrow (.deferred none) hK rfl
  refine⟨_,results_tmp rfl _ _ _,v,rfl,?_,?_⟩
  ·have ho:Own 3 (W.putObj D (.deferred none)) w.heap.size v ((Rn.widths m).map encI):=(by unfold Own;have e:(Rn.widths m).map encI=(Rn.widthsN m).map fun(x:Nat)=>Value.int .i64 (x:Int):=(by unfold Rn.widths;rw[D6];rfl);rw[e,N0];exact hrow2);exact ho.slk
  ·exact W7 (W7 hB0 hB) (belowK_b (w:=w) (I0 _) W D _ _ C0 hK rfl rfl)
 case stop=>rintro D c pre W _ _ h _;exact h.elim
theorem xB (v:Value) (ws:List Int) (w:World) (hv:Sl w v (ws.map encI)) (hne:0<ws.length) (hl:ws.length<=1000000):
 Calls prog 105 #[v] w fun e w'=>e=.returned (.bool (Tw.inRng ws))∧w=w':=by
 rcases hv with⟨h1,_⟩|⟨b,o,cap,he,hb,hc⟩
 ·have:ws=[]:=D9;rw[this]at hne;simp at hne
 ·rw[he,N0];refine BR b o cap ws w (fun j hj=> ?_) C0;rw[hc j (by rw[N0];exact hj),X2,P0 hj,A1,P0 hj];rfl
theorem eA (w:World) (n:Nat) (B:Nat) (hn:n<=1000000) (hB:B<=w.heap.size):∃w',(Instr.makeSlice 26 (.int .i64 0) (.int .i64 (n:Int))).run prog w=.ok (.slice (some ⟨w.heap.size,0,none⟩) 0 n) w'∧Own 4 w' B (.slice (some ⟨w.heap.size,0,none⟩) 0 n) []∧Ext w w':=by obtain⟨i0,hi,hz0,hz1,hz2⟩:=C5 SJ;obtain⟨w',h1,h2,h3⟩:=run_make_own (P:=prog) w B 26 4 i0 (.bool false) 1 underlying26 hi hz0 hz1 .i64 .i64 n UU UV hB;exact⟨w',h1,h2,(Ext.refl w).ofGrown h3 (fun k hk=>by cases hk)⟩
theorem KY (v:Value) (ws:List Int) (w:World) (hv:Sl w v (ws.map encI)) (hl:ws.length<=1000000):
 Calls prog 65 #[v] w (ZT (Rn.modules ws) w):=by
 have HIR:=B0 (fun hne=>xB v ws w hv hne hl)
 obtain⟨a,c,rfl⟩:=hv.form
 rw[N0]at hv HIR⊢
 obtain⟨n,hn⟩:∃n,n=ws.length:=⟨_,rfl⟩
 rw[<-hn]at hv hl HIR⊢
 have HN:=B0 hn
 have HV:=B0 hv
 have HR:=B0 (Rn.modules.eq_1 ws)
 rw[<-hn]at HR
 generalize Rn.modules ws=res at*
 clear hv hn
 by_cases h0:n=0
 ·have z0:((n:Int)==0)=true:=C2.2 C0;rw[G0 h0]at HR;clear h0 HIR;go_enter func65,ntmps65;exact QV
 have z0:((n:Int)==0)=false:=V0.2 C0
 rw[D0 h0]at HR
 have hpos:0<n:=by omega
 clear h0
 by_cases h2:n%2=0
 ·have z2:((n:Int)%2==0)=true:=C2.2 C0;rw[G0 h2]at HR;clear h2 HIR;go_enter func65,ntmps65;exact QV
 have z2:((n:Int)%2==0)=false:=V0.2 C0
 rw[D0 h2]at HR
 clear h2
 cases hrg:Tw.inRng ws with
 |false=>rw[hrg,G0 rfl]at HR;have HIR2:=B0 (HIR.out hpos);rw[hrg]at HIR2;clear hrg HIR;go_enter func65,ntmps65;go_wp2_with fail;refine HIR2.out.mono ?_;rintro e w1 ⟨rfl,rfl⟩;exact QV
 |true=>
 rw[hrg,D0 J0]at HR
 have HIR2:=B0 (HIR.out hpos)
 rw[hrg]at HIR2
 clear HIR
 have HIN:=B0 (fun x hx=>RH hrg (x:=x) hx)
 have hsb:=Rn.sum_in HIN.out
 obtain⟨S,hS⟩:∃S,S=Rn.sum ws:=⟨_,rfl⟩
 rw[<-hS]at HR hsb
 have HSS:=B0 hS
 have hS0:=hsb.1
 have hS1:S<=65536000000:=A9
 clear hrg hsb hS
 by_cases h4:65536<S
 ·rw[G0 h4]at HR;go_enter func65,ntmps65;go_wp2_with fail;refine HIR2.out.mono ?_;rintro e w1 ⟨rfl,rfl⟩;go_wp2_with fail;go_loop [4,22] (fun s i=>∃(j:Nat) (t:Int),j<=n∧i=.int .i64 (j:Int)∧s=.int .i64 t∧0<=t∧t<=65536*(j:Int)∧Hid (t=Rn.sum (ws.take j))) (fun _ i=>n-(intOf i).toNat);(case atStart=>exact UW)
  case round=>
  obtain⟨j,t,hj,rfl,rfl,ht0,ht1,HT⟩:=hrel;by_cases hlt:j<n;(·exact Qs);obtain rfl:n=j:=C0;obtain rfl:t=S:=KZ;clear hj hlt HT;exact QV
 rw[D0 h4]at HR
 obtain⟨N,rfl⟩:∃N:Nat,S=(N:Int):=⟨S.toNat,by omega⟩
 obtain⟨wm,hmk,hOm,hXm⟩:=eA w N w.heap.size C0 (I0 _)
 have HOm:=B0 hOm
 have HXm:=B0 hXm
 clear hOm hXm
 have HLEN:Hid (∀j,(Rn.mods true (ws.take j)).length<=65536):=B0 (fun j=>by have h1:=Rn.mods_len (ws.take j) true (fun x hx=>(HIN.out x (L5 hx)).1);have h2:Rn.sum (ws.take j)+Rn.sum (ws.drop j)=(N:Int):=(by rw[<-Rn.sum_app,C6,<-HSS.out]);have h3:=Rn.sum_pos (ws.drop j) (fun x hx=>(HIN.out x (X7 hx)).1);omega)
 go_enter func65,ntmps65
 go_wp2_with fail
 refine HIR2.out.mono ?_
 rintro e w1 ⟨rfl,rfl⟩
 go_wp2_with fail
 go_loop [4,22] (fun s i=>∃(j:Nat) (t:Int),j<=n∧i=.int .i64 (j:Int)∧s=.int .i64 t∧0<=t∧t<=65536*(j:Int)∧Hid (t=Rn.sum (ws.take j))) (fun _ i=>n-(intOf i).toNat)
 case atStart=>exact UW
 case round=>
 obtain⟨j,t,hj,rfl,rfl,ht0,ht1,HT⟩:=hrel
 by_cases hlt:j<n
 ·exact Qs
 obtain rfl:n=j:=by omega
 obtain rfl:t=(N:Int):=KZ
 clear hj hlt HT
 go_wp2_with fail
 go_loopw [7,36] (fun v i wr=>∃j:Nat,j<=n∧i=.int .i64 (j:Int)∧Hid (Own 4 wr w.heap.size v ((Rn.mods true (ws.take j)).map encT))∧Hid (Ext w wr)) (fun _ i _=>n-(intOf i).toNat)
 case atStart=>exact PP
 case round=>obtain⟨j,hj,rfl,HO,HX⟩:=hrel;by_cases hlt:j<n;(·obtain⟨x,hxj⟩:∃x,ws[j]? =some x:=⟨_,P0 U3⟩;have hx:=HIN.out x (I1 hxj);obtain⟨m,rfl⟩:∃m:Nat,x=(m:Int):=⟨x.toNat,by omega⟩;obtain⟨cb,hcb⟩:∃cb,cb=((j:Int)%2==0):=⟨_,rfl⟩;have HMS:Hid (Rn.mods true (ws.take (j+1))=Rn.mods true (ws.take j)++List.replicate m cb):=B0 (by rw[Z2 hxj,Rn.mods_snoc,hcb];have e:(if(ws.take j).length%2=0 then true else !true)=((j:Int)%2==0):=(by rw[L1,H6 R7];by_cases h:j%2=0;(·rw[G0 h];exact(C2.2 C0).symm);·rw[D0 h];exact(V0.2 C0).symm);rw[e];rfl);have hm9:m<=65536:=C0;have hjI:(j:Int)<(n:Int):=C0;have HL2:=B0 (HLEN.out (j+1));have HXJ:=B0 hxj;have hcb2:=hcb.symm;generalize Rn.mods true (ws.take j)=got at*;clear hxj hx hcb;obtain⟨b,o,ha,hb,hc⟩:=HV.out.int_at HX.out HXJ.out;subst ha;go_wp2_with fail;go_loopw [7,42] (fun v k wq=>∃q:Nat,q<=m∧k=.int .i64 (q:Int)∧Hid (Own 4 wq w.heap.size v ((got++List.replicate q cb).map encT))∧Hid (Ext w wq)) (fun _ k _=>m-(intOf k).toNat);(case atStart=>exact⟨0,U0 _,rfl,by simpa using HO,HX⟩);case round=>clear HO HX;obtain⟨q,hq,rfl,HO,HX⟩:=hrel;by_cases hql:q<m;(·have hqI:(q:Int)<(m:Int):=C0;have hown:=HO.out;have hgl:(got++List.replicate q cb).length<=65536:=(by have h1:=HL2.out;rw[HMS.out,O0,C3]at h1;rw[O0,C3];omega);have hsz:=HX.out.size;go_wp2_with (at_builtin;refine gJ rfl _ _ rfl w.heap.size _ (got++List.replicate q cb) rfl (hown.alloc _) _ cb rfl ?c1 ?c2 ?c3 ?_);(case c1=>simp[go_sem,encT]);(case c2=>omega);(case c3=>exact W4);intro v' w5 hown5 hg5;have HX5:=B0 ((HX.out.alloc _).ofGrown hg5 hown.low);have HO5:Hid (Own 4 w5 w.heap.size v' ((got++List.replicate (q+1) cb).map encT)):=B0 (by first|(rw[NM,<-G1];exact hown5)|(rw[show(got++List.replicate (q+1) cb).map encT=List.map encT got++(List.replicate q (encT cb)++[encT cb]) by rw[NM];simp];exact hown5));clear hown hown5 hg5 hsz;go_wp2_with fail;go_roundw;(case rel=>exact⟨q+1,by omega,by go_num,HO5,HX5⟩);case measure=>exact Qr);·obtain rfl:q=m:=C0;have HO3:Hid (Own 4 wr w.heap.size _ ((Rn.mods true (ws.take (j+1))).map encT)):=B0 (by rw[HMS.out];exact HO.out);clear hql hq;go_wp2_with fail;go_roundw;(case rel=>exact⟨j+1,by omega,by go_num,HO3,HX⟩);case measure=>exact Qr);·obtain rfl:j=n:=C0;have hO:=HO.out;rw[P1 D8]at hO;have HK:=B0 hO.slk;have hx9:=HX.out;clear hO hlt hj;go_wp2_with fail;go_ret2;exact⟨_,by rw[HR.out];rfl,by rw[HR.out];exact HK.out,hx9⟩
end
end Go.Proofs.YtbngggoccndefaaGreatDoor
