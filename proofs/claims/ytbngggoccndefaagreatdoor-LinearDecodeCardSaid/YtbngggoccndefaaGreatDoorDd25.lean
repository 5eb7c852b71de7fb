/-
  Laid together.
-/
import Derived.Test.YtbngggoccndefaaGreatDoorDd24
set_option maxHeartbeats 16000000
set_option maxRecDepth 100000
set_option linter.unusedVariables false
set_option linter.unusedSimpArgs false
set_option linter.ambiguousOpen false
namespace Go.Proofs.YtbngggoccndefaaGreatDoor
open Go.Proofs.Tryz
section
open Go.RowKit
theorem ZkW {l:List UInt8} (hd:Cd.AllDig l) (h2:2<=l.length) (hl:l.length<=4096):Cd.verI 1 l=0↔(Cd.gsF l).1%10=0:=by have h1:Cd.verI 1 l=Cd.ver 1 l:=rfl;rw[h1,Cd.sums1 l hd h2 hl,Cd.ws_gs]
theorem Zj3 (ai d:ByteArray) (w:World) (fm mo:Int) (hf:1<=fm) (hs:d.size<=9223372036854775807)
 (HT:Hid (∀w,Calls prog 206 #[.string ai] w (TabR (fm,mo) w)))
 (h:mo<(d.size:Int)∨d.size=0∨((d.size:Int)≠mo∧fm≠4∧fm≠5)):
 Calls prog 134 #[.agg #[.string ai,.string d]] w fun e w'=>e=.returned (.int .i64 7)∧Ext w w':=by
 have HXA:=ZmE ((Ext.refl w).alloc (.cells #[.string ai,.string d] 86))
 have FJ:Hid (∀w',Ext (w.alloc (.cells #[.string ai,.string d] 86)) w'->w'.cell? ⟨w.heap.size,0,none⟩=some (.string ai)∧w'.cell? ⟨w.heap.size,1,none⟩=some (.string d)):=ZmE (fun w' hx=>by refine⟨?_,?_⟩;all_goals rw[hx.cell QhQ];simp[go_sem])
 have g0:(fm==0)=false:=Qai
 by_cases h1:mo<(d.size:Int)
 ·clear h;exact Qbp
 ·have h1':(d.size:Int)<=mo:=QhN;by_cases h2:d.size=0;(·have i0:((d.size:Int)==0)=true:=(by rw[h2];rfl);clear h h1 h2;exact Qbp);·have i0:((d.size:Int)==0)=false:=Qai;obtain⟨a1,a2,a3⟩:(d.size:Int)≠mo∧fm≠4∧fm≠5:=(h.resolve_left h1).resolve_left h2;have i2:((d.size:Int) !=mo)=true:=Qcm;have i4:(fm !=4)=true:=(by simpa using a2);have i5:(fm !=5)=true:=(by simpa using a3);clear h h1 h2 a1 a2 a3;exact Qbp
theorem Zmp (ai d:ByteArray) (w:World) (mo:Int) (res:Int) (hm1:1<=mo) (hm9:mo<=90) (hs:d.size<=9223372036854775807)
 (HT:Hid (∀w,Calls prog 206 #[.string ai] w (TabR (1,mo) w)))
 (n0:1<=d.size) (n1:(d.size:Int)<=mo) (HNE:(d.size:Int)=mo) (hlo:True)
 (HV6:Hid (d.data.toList.all (fun c=>Cd.isDig c.toNat)=false->res=6)) (HV3:Hid (d.data.toList.all (fun c=>Cd.isDig c.toNat)=true->res=0)):
 Calls prog 134 #[.agg #[.string ai,.string d]] w fun e w'=>e=.returned (.int .i64 res)∧Ext w w':=by
 have HXA:=ZmE ((Ext.refl w).alloc (.cells #[.string ai,.string d] 86))
 have FJ:Hid (∀w',Ext (w.alloc (.cells #[.string ai,.string d] 86)) w'->w'.cell? ⟨w.heap.size,0,none⟩=some (.string ai)∧w'.cell? ⟨w.heap.size,1,none⟩=some (.string d)):=ZmE (fun w' hx=>by refine⟨?_,?_⟩;all_goals rw[hx.cell QhQ];simp[go_sem])
 have i0:((d.size:Int)==0)=false:=Qai
 have i1:¬mo<(d.size:Int):=by omega
 have i2:((d.size:Int) !=mo)=false:=Qcm
 have HNE2:=ZmE HNE
 clear HNE i1
 go_enter func134,ntmps134
 go_wp2_with fail
 refine(HT.out _).mono ?_
 rintro e w1 ⟨rfl,hx1⟩
 dsimp only
 obtain⟨d0,d1⟩:=FJ.out w1 hx1
 have hxw:Ext w w1:=HXA.out.trans hx1
 go_wp2
 go_loop [6] (fun i=>∃j:Nat,j<=d.size∧i=.int .i64 (j:Int)∧Hid ((d.data.toList.take j).all (fun c=>Cd.isDig c.toNat)=true)) (fun i=>d.size-(intOf i).toNat)
 case atStart=>exact QaF
 case round=>exact QP
theorem Zmq (ai d:ByteArray) (w:World) (mo:Int) (res:Int) (hm1:1<=mo) (hm9:mo<=90) (hs:d.size<=9223372036854775807)
 (HT:Hid (∀w,Calls prog 206 #[.string ai] w (TabR (2,mo) w)))
 (n0:1<=d.size) (n1:(d.size:Int)<=mo) (HNE:(d.size:Int)=mo) (h13:Hid (1<=d.size∧d.size<=100∧2<=d.size))
 (HV6:Hid (d.data.toList.all (fun c=>Cd.isDig c.toNat)=false->res=6)) (HV3:Hid (d.data.toList.all (fun c=>Cd.isDig c.toNat)=true->res=if Cd.verI 1 d.data.toList≠0 then 8 else 0)):
 Calls prog 134 #[.agg #[.string ai,.string d]] w fun e w'=>e=.returned (.int .i64 res)∧Ext w w':=by
 have HXA:=ZmE ((Ext.refl w).alloc (.cells #[.string ai,.string d] 86))
 have FJ:Hid (∀w',Ext (w.alloc (.cells #[.string ai,.string d] 86)) w'->w'.cell? ⟨w.heap.size,0,none⟩=some (.string ai)∧w'.cell? ⟨w.heap.size,1,none⟩=some (.string d)):=ZmE (fun w' hx=>by refine⟨?_,?_⟩;all_goals rw[hx.cell QhQ];simp[go_sem])
 have i0:((d.size:Int)==0)=false:=Qai
 have i1:¬mo<(d.size:Int):=by omega
 have i2:((d.size:Int) !=mo)=false:=Qcm
 have HNE2:=ZmE HNE
 clear HNE i1
 go_enter func134,ntmps134
 go_wp2_with fail
 refine(HT.out _).mono ?_
 rintro e w1 ⟨rfl,hx1⟩
 dsimp only
 obtain⟨d0,d1⟩:=FJ.out w1 hx1
 have hxw:Ext w w1:=HXA.out.trans hx1
 go_wp2
 go_loop [6] (fun i=>∃j:Nat,j<=d.size∧i=.int .i64 (j:Int)∧Hid ((d.data.toList.take j).all (fun c=>Cd.isDig c.toNat)=true)) (fun i=>d.size-(intOf i).toNat)
 case atStart=>exact QaF
 case round=>obtain⟨j,hj,rfl,hal⟩:=hrel;by_cases hlt:j<d.size;(·exact QC);·obtain rfl:j=d.size:=QhN;rw[Zx]at hal;clear hj hlt;have HV4:=ZmE (HV3.out hal.out);have HCK:=ZmE (fun w=>ZeQ d h13.out.1 h13.out.2.1 (Zcp hal.out) w);have HSUM:=ZmE (ZkW (Zcp hal.out) (by rw[Zb];exact h13.out.2.2) (by rw[Zb];have:=h13.out.2.1;omega));cases hck:decide ((Cd.gsF d.data.toList).1%10=0);(·have HR9:Hid (res=8):=ZmE (by rw[HV4.out,ZmH (fun h=>by have:=HSUM.out.1 h;rw[ZmR this]at hck;exact Bool.noConfusion hck)]);exact QdH);·have HR9:Hid (res=0):=ZmE (by rw[HV4.out,ZmF (fun h=>h (HSUM.out.2 (Zok hck)))]);exact QdH
theorem Zmr (ai d:ByteArray) (w:World) (mo:Int) (res:Int) (hm1:1<=mo) (hm9:mo<=90) (hs:d.size<=9223372036854775807)
 (HT:Hid (∀w,Calls prog 206 #[.string ai] w (TabR (3,mo) w)))
 (n0:1<=d.size) (n1:(d.size:Int)<=mo) (HNE:(d.size:Int)=mo) (h6:Hid (d.size=6))
 (HV6:Hid (d.data.toList.all (fun c=>Cd.isDig c.toNat)=false->res=6)) (HV3:Hid (d.data.toList.all (fun c=>Cd.isDig c.toNat)=true->res=if Gs.dateB d.data.toList=false then 9 else 0)):
 Calls prog 134 #[.agg #[.string ai,.string d]] w fun e w'=>e=.returned (.int .i64 res)∧Ext w w':=by
 have HXA:=ZmE ((Ext.refl w).alloc (.cells #[.string ai,.string d] 86))
 have FJ:Hid (∀w',Ext (w.alloc (.cells #[.string ai,.string d] 86)) w'->w'.cell? ⟨w.heap.size,0,none⟩=some (.string ai)∧w'.cell? ⟨w.heap.size,1,none⟩=some (.string d)):=ZmE (fun w' hx=>by refine⟨?_,?_⟩;all_goals rw[hx.cell QhQ];simp[go_sem])
 have i0:((d.size:Int)==0)=false:=Qai
 have i1:¬mo<(d.size:Int):=by omega
 have i2:((d.size:Int) !=mo)=false:=Qcm
 have HNE2:=ZmE HNE
 clear HNE i1
 go_enter func134,ntmps134
 go_wp2_with fail
 refine(HT.out _).mono ?_
 rintro e w1 ⟨rfl,hx1⟩
 dsimp only
 obtain⟨d0,d1⟩:=FJ.out w1 hx1
 have hxw:Ext w w1:=HXA.out.trans hx1
 go_wp2
 go_loop [6] (fun i=>∃j:Nat,j<=d.size∧i=.int .i64 (j:Int)∧Hid ((d.data.toList.take j).all (fun c=>Cd.isDig c.toNat)=true)) (fun i=>d.size-(intOf i).toNat)
 case atStart=>exact QaF
 case round=>obtain⟨j,hj,rfl,hal⟩:=hrel;by_cases hlt:j<d.size;(·exact QC);·obtain rfl:j=d.size:=QhN;rw[Zx]at hal;clear hj hlt;have HV4:=ZmE (HV3.out hal.out);cases hdt:Gs.dateB d.data.toList;(·have HR9:Hid (res=9):=ZmE (by rw[HV4.out,ZmH hdt]);exact QcD);·have HR9:Hid (res=0):=ZmE (by rw[HV4.out,ZmF (by rw[hdt];simp)]);exact QcD
theorem Zms (ai d:ByteArray) (w:World) (mo:Int) (res:Int) (hm1:1<=mo) (hm9:mo<=90) (hs:d.size<=9223372036854775807)
 (HT:Hid (∀w,Calls prog 206 #[.string ai] w (TabR (4,mo) w)))
 (n0:1<=d.size) (n1:(d.size:Int)<=mo) (HNE:True) (hlo:True)
 (HV6:Hid (d.data.toList.all (fun c=>Cd.isDig c.toNat)=false->res=6)) (HV3:Hid (d.data.toList.all (fun c=>Cd.isDig c.toNat)=true->res=0)):
 Calls prog 134 #[.agg #[.string ai,.string d]] w fun e w'=>e=.returned (.int .i64 res)∧Ext w w':=by
 have HXA:=ZmE ((Ext.refl w).alloc (.cells #[.string ai,.string d] 86))
 have FJ:Hid (∀w',Ext (w.alloc (.cells #[.string ai,.string d] 86)) w'->w'.cell? ⟨w.heap.size,0,none⟩=some (.string ai)∧w'.cell? ⟨w.heap.size,1,none⟩=some (.string d)):=ZmE (fun w' hx=>by refine⟨?_,?_⟩;all_goals rw[hx.cell QhQ];simp[go_sem])
 have i0:((d.size:Int)==0)=false:=Qai
 have i1:¬mo<(d.size:Int):=by omega
 clear HNE i1
 by_cases hq:(d.size:Int)=mo
 ·have i2:((d.size:Int) !=mo)=false:=Qcm;exact Q7
 ·have i2:((d.size:Int) !=mo)=true:=Qcm;exact Q7
theorem Zmt (ai d:ByteArray) (w:World) (mo:Int) (res:Int) (hm1:1<=mo) (hm9:mo<=90) (hs:d.size<=9223372036854775807)
 (HT:Hid (∀w,Calls prog 206 #[.string ai] w (TabR (5,mo) w)))
 (n0:1<=d.size) (n1:(d.size:Int)<=mo) (HNE:True) (hlo:True)
 (HV6:Hid (d.data.toList.all (fun c=>Cd.isDig c.toNat || Gs.charB c)=false->res=6)) (HV3:Hid (d.data.toList.all (fun c=>Cd.isDig c.toNat || Gs.charB c)=true->res=0)):
 Calls prog 134 #[.agg #[.string ai,.string d]] w fun e w'=>e=.returned (.int .i64 res)∧Ext w w':=by
 have HXA:=ZmE ((Ext.refl w).alloc (.cells #[.string ai,.string d] 86))
 have FJ:Hid (∀w',Ext (w.alloc (.cells #[.string ai,.string d] 86)) w'->w'.cell? ⟨w.heap.size,0,none⟩=some (.string ai)∧w'.cell? ⟨w.heap.size,1,none⟩=some (.string d)):=ZmE (fun w' hx=>by refine⟨?_,?_⟩;all_goals rw[hx.cell QhQ];simp[go_sem])
 have i0:((d.size:Int)==0)=false:=Qai
 have i1:¬mo<(d.size:Int):=by omega
 clear HNE i1
 by_cases hq:(d.size:Int)=mo
 ·have i2:((d.size:Int) !=mo)=false:=Qcm;exact Q4
 ·have i2:((d.size:Int) !=mo)=true:=Qcm;exact Q4
theorem ZfX:∀p∈Gs.dir,p.2.1=1->13<=p.2.2.1:=Qct
theorem ZiE {l:List UInt8} {r:Gs.Rule} (h:Gs.find l=some r) (h0:r.1=1):13<=r.2.1:=by
 rcases Zb4 h with⟨h1,_⟩|⟨k,c,_,h1,_⟩;·exact ZfX _ h1 h0
 ·exact ZfX _ h1 h0
theorem ZcI {k:Int} (h:k≠3):Gs.okc k=fun c=>Cd.isDig c.toNat:=by funext c;unfold Gs.okc;rw[show(k==3)=false by simpa using h];simp
theorem Zmm:Gs.okc 3=fun c=>Cd.isDig c.toNat || Gs.charB c:=by funext c;unfold Gs.okc;simp
theorem ZaB (ai d:ByteArray) (ha:ai.size<=maxLen) (hs:d.size<=maxLen) (w:World):
 Calls prog 134 #[.agg #[.string ai,.string d]] w fun e w'=>e=.returned (.int .i64 (Gs.ver ai.data.toList d.data.toList))∧Ext w w':=by
 have HT:=ZmE (fun w=>Zcl ai ha w)
 have hs':d.size<=9223372036854775807:=hs
 cases hg:Gs.find ai.data.toList with
 |none=>rw[hg]at HT;have HV:Hid (Gs.ver ai.data.toList d.data.toList=29):=ZmE (by unfold Gs.ver;rw[hg]);generalize Gs.ver ai.data.toList d.data.toList=res at*;have HXA:=ZmE ((Ext.refl w).alloc (.cells #[.string ai,.string d] 86));have FJ:Hid (∀w',Ext (w.alloc (.cells #[.string ai,.string d] 86)) w'->w'.cell? ⟨w.heap.size,0,none⟩=some (.string ai)∧w'.cell? ⟨w.heap.size,1,none⟩=some (.string d)):=ZmE (fun w' hx=>by refine⟨?_,?_⟩;all_goals rw[hx.cell QhQ];simp[go_sem]);clear hg hs ha;dsimp only[Gs.tabO]at HT;go_enter func134,ntmps134;go_wp2_with fail;refine(HT.out _).mono ?_;rintro e w1 ⟨rfl,hx1⟩;dsimp only;obtain⟨d0,d1⟩:=FJ.out w1 hx1;have hxw:Ext w w1:=HXA.out.trans hx1;go_wp2;go_ret;exact⟨Zt HV.out.symm,hxw⟩
 |some r=>rw[hg]at HT;have HV:Gs.ver ai.data.toList d.data.toList=Gs.verR r d.data.toList:=(by unfold Gs.ver;rw[hg]);rw[HV];have hok:=Za1 hg;obtain⟨f1,f5,ff⟩:=Zd3 hok;obtain⟨k0,k3,l1,lh,h9,h2,h1,h3⟩:=hok;have hvar:=fun h=>ZiG hg h;have hchk:=fun h=>ZiE hg h;obtain⟨k,lo,hi,sf⟩:=r;dsimp only[Gs.tabO]at HT k0 k3 l1 lh h9 h2 h1 h3 hvar hchk;have hfr:=Eq.refl (Gs.frm (k,lo,hi,sf));unfold Gs.verR;dsimp only;rw[Zb];by_cases hlen:(d.size:Int)<lo∨hi<(d.size:Int);(·rw[ZmH hlen];refine Zj3 ai d w _ hi f1 hs' HT ?_;by_cases hfx:Gs.isFix (k,lo,hi,sf)=true;(·have hlh:lo=hi:=(by simpa[Gs.isFix]using hfx);have:=ff.1 hfx;omega);·have hlh:¬lo=hi:=(by simpa[Gs.isFix]using hfx);have hlo:lo=1:=(by have:k=0∨k=1∨k=2∨k=3:=QhN;rcases this with e|e|e|e;(·exact(hvar e).resolve_left hlh);(·exact absurd (h1 e) hlh);(·have:=h2 e;omega);·exact(h3 e).1);omega);·rw[ZmF hlen];have n0:1<=d.size:=QhN;have n1:(d.size:Int)<=hi:=QhN;have hk:k=0∨k=1∨k=2∨k=3:=QhN;rcases hk with rfl|rfl|rfl|rfl;(·rw[ZcI QhP];by_cases hlh:lo=hi;(·have e:Gs.frm (0,lo,hi,sf)=1:=(by unfold Gs.frm;simp[hlh]);rw[e]at HT;refine Zmp ai d w hi _ QhN h9 hs' HT n0 n1 QhN trivial (ZmE (fun h=>by rw[ZmH h])) (ZmE (fun h=>by rw[ZmF Qjv,ZmF QhQ,ZmF QhQ])));·have e:Gs.frm (0,lo,hi,sf)=4:=(by unfold Gs.frm;simp[hlh]);rw[e]at HT;refine Zms ai d w hi _ QhN h9 hs' HT n0 n1 trivial trivial (ZmE (fun h=>by rw[ZmH h])) (ZmE (fun h=>by rw[ZmF Qjv,ZmF QhQ,ZmF QhQ])));(·have e:Gs.frm (1,lo,hi,sf)=2:=(by unfold Gs.frm;simp);have hlh:=h1 rfl;have h13:=hchk rfl;rw[ZcI QhP];rw[e]at HT;refine Zmq ai d w hi _ QhN h9 hs' HT n0 n1 QhN (ZmE ⟨n0,by omega,by omega⟩) (ZmE (fun h=>by rw[ZmH h])) (ZmE (fun h=>by rw[ZmF Qjv,ZmF QhQ];simp)));(·have e:Gs.frm (2,lo,hi,sf)=3:=(by unfold Gs.frm;simp);have h6:=h2 rfl;rw[ZcI QhP];rw[e]at HT;refine Zmr ai d w hi _ QhN h9 hs' HT n0 n1 QhN (ZmE QhN) (ZmE (fun h=>by rw[ZmH h])) (ZmE (fun h=>by rw[ZmF Qjv];simp)));·have e:Gs.frm (3,lo,hi,sf)=5:=(by unfold Gs.frm;simp);rw[Zmm];rw[e]at HT;refine Zmt ai d w hi _ QhN h9 hs' HT n0 n1 trivial trivial (ZmE (fun h=>by rw[ZmH h])) (ZmE (fun h=>by rw[ZmF Qjv,ZmF QhQ,ZmF QhQ]))
theorem Zjq (v:Value) (xs:List Gs.El) (w:World) (hl:ESl w v xs) (hn:xs.length<=1000000000000) (hs:∀x∈xs,x.1.length<=maxLen∧x.2.length<=maxLen):
 Calls prog 135 #[v] w fun e w'=>e=.returned (.int .i64 (Gs.verAll xs))∧Ext w w':=by
 obtain⟨a,c,rfl⟩:=hl.form
 have HV:=ZmE (fun(w':World) (ai d:ByteArray) (h1:ai.size<=maxLen) (h2:d.size<=maxLen)=>ZaB ai d h1 h2 w')
 have HL:=ZmE hl
 have HS:=ZmE hs
 have HR:=ZmE (Gs.verAll.eq_1 xs)
 generalize Gs.verAll xs=res at*
 clear hl hs
 by_cases h0:xs=[]
 ·subst h0;rw[ZmH rfl]at HR;clear HV HL HS;go_enter func135,ntmps135;go_wp2;go_ret;exact⟨Zt HR.out.symm,Ext.refl _⟩
 ·rw[ZmF h0]at HR;obtain⟨N,hN⟩:∃N,xs.length=N:=⟨_,rfl⟩;have hN0:0<N:=(by rw[<-hN];exact Qfk);have hN1:((N:Int)==0)=false:=Qai;have HN:=ZmE hN;rw[hN]at hn HL⊢;clear h0 hN;go_enter func135,ntmps135;go_wp2;go_loopw [3] (fun t wr=>∃k:Nat,k<=N∧t=.int .i64 (k:Int)∧Hid (res=Gs.verL (xs.drop k))∧Ext w wr) (fun t _=>N-(intOf t).toNat);(case atStart=>exact⟨0,ZmP _,rfl,HR,Ext.refl w⟩);case round=>obtain⟨k,hk,rfl,hv,hx⟩:=hrel;by_cases hlt:k<N;(·obtain⟨x,hxk⟩:∃x,xs[k]? =some x:=⟨_,ZmG Qif⟩;obtain⟨bb,off,ha,hb,q0,q1⟩:=HL.out.at_ hxk;subst ha;have d0:=(hx.cell (p:=⟨bb,off+k*2,none⟩) hb).trans q0;have d1:=(hx.cell (p:=⟨bb,off+k*2+1,none⟩) hb).trans q1;have hdr:xs.drop k=x::xs.drop (k+1):=Qhx;have HV1:=ZmE (hv.out.trans (by rw[hdr,Gs.verL]));obtain⟨s1,s2⟩:=HS.out x (ZmT hxk);obtain⟨xa,xd⟩:=x;unfold encS at d0 d1;dsimp only at d0 d1 s1 s2 HV1;have HB:Hid ((⟨xa.toArray⟩:ByteArray).data.toList=xa∧(⟨xd.toArray⟩:ByteArray).data.toList=xd∧(⟨xa.toArray⟩:ByteArray).size<=maxLen∧(⟨xd.toArray⟩:ByteArray).size<=maxLen):=ZmE (by simp[ByteArray.size];exact⟨s1,s2⟩);generalize(⟨xa.toArray⟩:ByteArray)=A at*;generalize(⟨xd.toArray⟩:ByteArray)=D at*;clear hxk q0 q1 hdr s1 s2 hv;go_wp2_with fail;obtain⟨b1,b2,b3,b4⟩:=HB.out;have H1:=ZmE (HV.out wr A D b3 b4);rw[b1,b2]at H1;clear b1 b2 b3 b4;by_cases hz:Gs.ver xa xd=0;(·rw[ZmH hz]at HV1;rw[hz]at H1;clear hz;refine H1.out.mono ?_;rintro e w1 ⟨rfl,hx1⟩;clear d0 d1;go_wp2;go_roundw;(case rel=>exact⟨k+1,by omega,by go_num,HV1,hx.trans hx1⟩);case measure=>exact Q8);·rw[ZmF hz]at HV1;obtain⟨z,hzz⟩:∃z,Gs.ver xa xd=z:=⟨_,rfl⟩;rw[hzz]at H1 HV1 hz;have hz1:(z==0)=false:=Qi2;clear hzz;refine H1.out.mono ?_;rintro e w1 ⟨rfl,hx1⟩;clear d0 d1;go_wp2;go_ret;exact⟨Zt HV1.out.symm,hx.trans hx1⟩);·exact Qc9
theorem ZeC (xs:List Gs.El) (k:Nat):((xs.take k).flatMap Gs.fmtE).length<=(xs.flatMap Gs.fmtE).length:=by
 have:xs.flatMap Gs.fmtE=(xs.take k).flatMap Gs.fmtE++(xs.drop k).flatMap Gs.fmtE:=by rw[<-ZoF,ZnX]
 rw[this,ZmM];omega
theorem ZfC (v:Value) (xs:List Gs.El) (w:World) (hl:ESl w v xs) (hn:xs.length<=1000000000) (hs:∀x∈xs,x.1.length<=maxLen∧x.2.length<=maxLen):
 Calls prog 147 #[v] w (StrR (Gs.format xs) w):=by
 have HVA:=ZmE (Zjq v xs w hl QhN hs)
 have HL:=ZmE hl
 obtain⟨a,c,rfl⟩:=hl.form
 have HR:=ZmE (Gs.format.eq_1 xs)
 have HVM:Hid (Gs.verAll xs=0->∀x∈xs,Gs.ver x.1 x.2=0):=ZmE (fun h=>ZcL (Zbu h))
 generalize Gs.format xs=res at*
 obtain⟨N,hN⟩:∃N,xs.length=N:=⟨_,rfl⟩
 have HN:=ZmE hN
 rw[hN]at hn HL HVA⊢
 clear hl hs hN
 by_cases hz:Gs.verAll xs=0
 ·have HVM:=ZmE (HVM.out hz);rw[hz]at HVA;rw[hz,ZmF QhQ]at HR;clear hz;go_enter func147,ntmps147;go_wp2_with fail;refine HVA.out.mono ?_;rintro e V ⟨rfl,hxw⟩;clear HVA;go_wp2;go_loopw [6,5] (fun t u wr=>∃(k:Nat) (S:ByteArray),k<=N∧t=.int .i64 (k:Int)∧u=.string S∧S.size<=4096∧Hid (S.data.toList=(xs.take k).flatMap Gs.fmtE)∧Ext w wr) (fun t _ _=>N-(intOf t).toNat);(case atStart=>exact⟨0,⟨#[]⟩,ZmP _,rfl,rfl,by decide,ZmE rfl,hxw⟩);case round=>obtain⟨k,S,hk,rfl,rfl,hS4,hst,hx⟩:=hrel;by_cases hlt:k<N;(·obtain⟨x,hxk⟩:∃x,xs[k]? =some x:=⟨_,ZmG Qif⟩;obtain⟨bb,off,ha,hb',q0,q1⟩:=HL.out.at_ hxk;subst ha;have d0:=(hx.cell (p:=⟨bb,off+k*2,none⟩) hb').trans q0;have d1:=(hx.cell (p:=⟨bb,off+k*2+1,none⟩) hb').trans q1;have HTS:Hid ((xs.take (k+1)).flatMap Gs.fmtE=(xs.take k).flatMap Gs.fmtE++Gs.fmtE x):=ZmE QjW;have hvs:=Zbo (HVM.out x (ZmT hxk));obtain⟨xa,xd⟩:=x;unfold encS at d0 d1;dsimp only at d0 d1 hvs;have HB:Hid ((⟨xa.toArray⟩:ByteArray).data.toList=xa∧(⟨xd.toArray⟩:ByteArray).data.toList=xd):=ZmE ⟨rfl,rfl⟩;generalize(⟨xa.toArray⟩:ByteArray)=A at*;generalize(⟨xd.toArray⟩:ByteArray)=D at*;have hAs:A.size<=4:=(by rw[<-Zb,HB.out.1];exact hvs.1);have hDs:D.size<=90:=(by rw[<-Zb,HB.out.2];exact hvs.2);have HNS:Hid ((S++⟨#[40]⟩++A++⟨#[41]⟩++D).data.toList=(xs.take (k+1)).flatMap Gs.fmtE):=ZmE (by rw[HTS.out,<-hst.out,<-HB.out.1,<-HB.out.2];simp[Gs.fmtE,Znt]);have HFT:=ZmE (ZeC xs (k+1));clear hxk q0 q1 hvs hst HTS;go_wp2;go_quiet (fail);obtain⟨R,hR⟩:∃R:ByteArray,R=S++⟨#[40]⟩++A++⟨#[41]⟩++D:=⟨_,rfl⟩;rw[<-hR]at HNS⊢;have hRs:R.size<=5000:=(by rw[hR];simp only[Zo8];have h1:(⟨#[40]⟩:ByteArray).size=1:=rfl;have h2:(⟨#[41]⟩:ByteArray).size=1:=rfl;omega);clear hR;by_cases hlg:4096<R.size;(·have HR4:Hid (res=([],4)):=ZmE (by rw[HR.out,ZmH];have h1:=HFT.out;rw[<-HNS.out,Zb]at h1;omega);go_wp2;go_ret2;rw[HR4.out];exact⟨rfl,hx.drewN _⟩);·have hlg':R.size<=4096:=QhN;clear hlg;go_wp2;go_roundw;(case rel=>exact⟨k+1,R,by omega,by go_num,rfl,hlg',HNS,hx.drewN _⟩);case measure=>exact Q8);·obtain rfl:k=N:=QhN;have HST:Hid (S.data.toList=xs.flatMap Gs.fmtE):=ZmE (by rw[hst.out,ZmW Qh9]);rw[<-HST.out,Zb,ZmF QhN]at HR;clear hk hlt hst;go_wp2;go_ret2;rw[HR.out];exact⟨by rw[Z6];rfl,hx⟩
 ·rw[ZmH hz]at HR;obtain⟨z,hzz⟩:∃z,Gs.verAll xs=z:=⟨_,rfl⟩;rw[hzz]at HVA HR hz;have hz1:(z==0)=false:=Qi2;clear hzz HVM;go_enter func147,ntmps147;go_wp2_with fail;refine HVA.out.mono ?_;rintro e V ⟨rfl,hxw⟩;go_wp2;go_ret2;exact⟨by rw[HR.out];rfl,hxw⟩
theorem ZdT (v:Value) (cs:List Int) (w:World) (hv:Sl w v (cs.map encI)) (hn:cs.length<=4096) (hok:∀b∈cs,0<=b∧b<=127):
 Calls prog 224 #[v] w fun e w'=>e=.returned (encS (Gs.text cs))∧Ext w w':=by
 obtain⟨av,cv,rfl⟩:=hv.form
 rw[ZmI]at hv⊢
 have HV:=ZmE hv
 have HOK:=ZmE hok
 obtain⟨N,hN⟩:∃N,cs.length=N:=⟨_,rfl⟩
 have HN:=ZmE hN
 rw[hN]at hn HV⊢
 clear hv hok hN
 go_enter func224,ntmps224
 go_wp2
 go_loopw [4,3] (fun t v wr=>∃k:Nat,k<=N∧t=.int .i64 (k:Int)∧Own 5 wr w.heap.size v ((Gs.text (cs.take k)).map encB)∧Ext w wr) (fun t _ _=>N-(intOf t).toNat)
 case atStart=>exact⟨0,ZmP _,rfl,Own.nil _ _ _,Ext.refl w⟩
 case round=>obtain⟨k,hk,rfl,hown,hx⟩:=hrel;obtain⟨ao,co,rfl⟩:=hown.sl.form;have hlk:(Gs.text (cs.take k)).length=k:=(by rw[ZP,ZmY,HN.out];omega);rw[ZmI]at hown⊢;by_cases hlt:k<N;(·obtain⟨c,hck⟩:∃c,cs[k]? =some c:=⟨_,ZmG Qif⟩;obtain⟨bb,off,ha,hb,hcell⟩:=HV.out.at_ (k:=k) Qh5;subst ha;have e1:(cs.map encI)[k]' Qh5=.int .i64 c:=Qdm;rw[e1]at hcell;have hcc:=(hx.cell (p:=⟨bb,off+k,none⟩) hb).trans hcell;obtain⟨c0,c1⟩:=HOK.out c (ZmT hck);have HTK:Hid (Gs.text (cs.take (k+1))=Gs.text (cs.take k)++[Gs.byte c]):=ZmE (by rw[ZaN hck,ZjO];rfl);have HBN:=ZmE (Ze1 c0 c1);generalize Gs.text (cs.take k)=got at*;have hlk':got.length<=4096:=QhN;have HLK:=ZmE hlk;clear hck e1 hcell hlk;go_wp2_with (at_builtin;go_loud (refine Za4 rfl _ _ rfl w.heap.size _ got rfl (hown.ext ((Ext.refl wr).alloc _)) _ (Gs.byte c) rfl ?_ QhN ?_ ?_));(·simp[go_sem,encB,HBN.out]);(·have:=hx.size;exact Qcm);intro v5 w5 hown5 hg5;have hx5:Ext w w5:=(hx.alloc _).ofGrown hg5 hown.low;clear hown hg5 hcc hx;go_wp2;go_roundw;(case rel=>exact⟨k+1,by omega,by go_num,by rw[HTK.out];first|exact hown5|(rw[Zn1];exact hown5),hx5⟩);case measure=>exact Q8);·obtain rfl:k=N:=QhN;rw[ZmW Qh9]at hown hlk⊢;have hcv:=Zl hown.sl;have HLK:=ZmE hlk;clear hk hlt hlk;go_wp2;go_ret;exact⟨rfl,hx⟩
def preF (o:Option (List UInt8×Gs.Rule)):List UInt8:=match o with
 |none=>[]
 |some (a,_)=>a
theorem Zdi (s:ByteArray) (hs:s.size<=1000000) (w:World):
 Calls prog 225 #[.string s] w fun e w'=>e=.returned (encS (preF (Gs.pre s.data.toList)))∧Ext w w':=by
 have HT:=ZmE (fun(n:Nat) (w':World)=>Zcl (s.extract 0 n) QjO w')
 have HP:=ZmE (@ZhM s.data.toList)
 have HN:=ZmE (@ZhN s.data.toList)
 have HE:=ZmE (fun n=>Gs.preN.eq_1 s.data.toList n)
 have HC:=ZmE (fun n=>Zr s n)
 have HL:=ZmE (Zb s)
 generalize Gs.pre s.data.toList=res at*
 generalize hl:s.data.toList=l at*
 clear hl
 go_enter func225,ntmps225
 go_wp2
 go_loopw [3] (fun t wr=>∃n:Nat,2<=n∧n<=5∧t=.int .i64 (n:Int)∧Hid (∀j,2<=j->j<n->Gs.preN l j=none)∧Ext w wr) (fun t _=>5-(intOf t).toNat)
 case atStart=>exact⟨2,by omega,by omega,rfl,ZmE (fun j h1 h2=>by omega),Ext.refl w⟩
 case round=>
  obtain⟨n,h2,h5,rfl,hno,hx⟩:=hrel;by_cases h4:n<=4
  ·by_cases hle:n<=s.size
   ·have H1:=ZmE (HT.out n wr)
    have HE1:=ZmE (HE.out n)
    rw[ZmH (by rw[HL.out];exact hle)]at HE1
    rw[HC.out]at H1
    obtain⟨T,hT⟩:∃T,l.take n=T:=⟨_,rfl⟩
    rw[hT]at H1 HE1
    cases hg:Gs.find T with
    |none=>rw[hg]at H1 HE1;have HNX:Hid (∀j,2<=j->j<n+1->Gs.preN l j=none):=ZmE (fun j h1 h3=>by rcases ZnY j n with hh|hh;(·exact hno.out j h1 hh);·obtain rfl:j=n:=QhN;exact HE1.out);dsimp only[Gs.tabO]at H1;clear hg hT HE1;go_wp2_with fail;refine H1.out.mono ?_;rintro e w1 ⟨rfl,hx1⟩;dsimp only;go_wp2;go_roundw;(case rel=>exact⟨n+1,by omega,by omega,by go_num,HNX,hx.trans hx1⟩);case measure=>exact Q8
    |some r=>rw[hg]at H1 HE1;have HRES:Hid (res=some (T,r)):=ZmE (HP.out n hno.out h2 h4 (by rw[HE1.out];rfl));have HTT:Hid (encS T=.string (s.extract 0 n)):=ZmE (by rw[<-hT,<-HC.out,Z6]);obtain⟨f1,_,_⟩:=Zd3 (Za1 hg);dsimp only[Gs.tabO]at H1;generalize Gs.frm r=fm at*;have hfm:(fm==0)=false:=Qai;have hfm2:(fm !=0)=true:=Qcm;clear hg HE1 HP HN hT;go_wp2_with fail;refine H1.out.mono ?_;rintro e w1 ⟨rfl,hx1⟩;dsimp only;go_wp2;go_ret;exact⟨by rw[HRES.out];simp only[preF,HTT.out];rfl,hx.trans hx1⟩
   ·have HRES:Hid (res=none):=ZmE (HN.out n hno.out h2 (.inr (by rw[HL.out];omega)));have hle':(s.size:Int)<(n:Int):=QhN;exact QfY
  ·have HRES:Hid (res=none):=ZmE (HN.out n hno.out h2 (.inl QhN));exact QfY
end
end Go.Proofs.YtbngggoccndefaaGreatDoor
