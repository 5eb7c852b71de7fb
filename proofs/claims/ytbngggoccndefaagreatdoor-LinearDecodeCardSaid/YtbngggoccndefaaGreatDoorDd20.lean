/-
  Laid together.
-/
import Derived.Test.YtbngggoccndefaaGreatDoorDd15
import Derived.Test.YtbngggoccndefaaGreatDoorDd19
set_option maxHeartbeats 16000000
set_option maxRecDepth 100000
set_option linter.unusedVariables false
set_option linter.unusedSimpArgs false
set_option linter.ambiguousOpen false
namespace Go.Proofs.YtbngggoccndefaaGreatDoor
open Go.Proofs.Tryz
section
open Go.RowKit Go.WideMaps Go.Maps
def Gs.fixF (l:List UInt8):Int×Int×Int:=match Gs.find l with
 |none=>(0,0,29)
 |some r=>(if Gs.isFix r then r.2.2.1 else 0,r.2.2.1,0)
def preV:Option (List UInt8×Gs.Rule)->Value
 |none=>.tuple #[.string ⟨#[]⟩,ruleV (0,0,0,0),.bool false]
 |some (a,r)=>.tuple #[encS a,ruleV r,.bool true]
def PreR (o:Option (List UInt8×Gs.Rule)) (w:World) (e:Ending) (w':World):Prop:=e=.returned (preV o)∧Ext w w'
def RuleAt (w:World) (b:Nat) (r:Gs.Rule):Prop:=w.heap[b]? =some (.cells #[.int .i64 r.1,.int .i64 r.2.1,.int .i64 r.2.2.1,.int .u8 (r.2.2.2.toNat:Int)] 138 (0,0))
theorem RuleAt.cells {w:World} {b:Nat} {r:Gs.Rule} (h:RuleAt w b r):w.cell? ⟨b,0,none⟩=some (.int .i64 r.1)∧w.cell? ⟨b,1,none⟩=some (.int .i64 r.2.1)∧w.cell? ⟨b,2,none⟩=some (.int .i64 r.2.2.1)∧w.cell? ⟨b,3,none⟩=some (.int .u8 (r.2.2.2.toNat:Int)):=by unfold RuleAt at h;refine⟨?_,?_,?_,?_⟩;all_goals unfold World.cell?;rw[h];rfl
theorem RuleAt.free {w:World} {b:Nat} {r:Gs.Rule} (h:RuleAt w b r) (i:Nat):w.frozen? ⟨b,i,none⟩=false:=Zqx h i
theorem RuleAt.put {w:World} {b:Nat} {r:Gs.Rule} (h:RuleAt w b r) (q:Gs.Rule):RuleAt ((((w.setCell ⟨b,0,none⟩ (.int .i64 q.1)).setCell ⟨b,1,none⟩ (.int .i64 q.2.1)).setCell ⟨b,2,none⟩ (.int .i64 q.2.2.1)).setCell ⟨b,3,none⟩ (.int .u8 (q.2.2.2.toNat:Int))) b q:=
 ZnS (ZnS (ZnS (ZnS h _) _) _) _
theorem Za3 {w:World} {b i:Nat} {cs:Array Value} {T:TypeId} {fr:Nat×Nat} {v:Value} (h:w.heap[b]? =some (.cells cs T fr)) (hi:i<cs.size):(w.setCell ⟨b,i,none⟩ v).cell? ⟨b,i,none⟩=some v:=by unfold World.cell?;rw[ZnS h];simp[hi]
theorem RuleAt.puts {w:World} {b:Nat} {r:Gs.Rule} (h:RuleAt w b r) (q:Gs.Rule):
 (w.setCell ⟨b,0,none⟩ (.int .i64 q.1)).cell? ⟨b,0,none⟩=some (.int .i64 q.1)∧
 ((w.setCell ⟨b,0,none⟩ (.int .i64 q.1)).setCell ⟨b,1,none⟩ (.int .i64 q.2.1)).cell? ⟨b,1,none⟩=some (.int .i64 q.2.1)∧
 (((w.setCell ⟨b,0,none⟩ (.int .i64 q.1)).setCell ⟨b,1,none⟩ (.int .i64 q.2.1)).setCell ⟨b,2,none⟩ (.int .i64 q.2.2.1)).cell? ⟨b,2,none⟩=some (.int .i64 q.2.2.1)∧
 ((((w.setCell ⟨b,0,none⟩ (.int .i64 q.1)).setCell ⟨b,1,none⟩ (.int .i64 q.2.1)).setCell ⟨b,2,none⟩ (.int .i64 q.2.2.1)).setCell ⟨b,3,none⟩ (.int .u8 (q.2.2.2.toNat:Int))).cell? ⟨b,3,none⟩=some (.int .u8 (q.2.2.2.toNat:Int)):=
 ⟨Za3 h QhQ,Za3 (ZnS h _) QhQ,Za3 (ZnS (ZnS h _) _) QhQ,Za3 (ZnS (ZnS (ZnS h _) _) _) QhQ⟩
theorem RuleAt.puts0 {w:World} {b:Nat} {r:Gs.Rule} (h:RuleAt w b r):
 (w.setCell ⟨b,0,none⟩ (.int .i64 0)).cell? ⟨b,0,none⟩=some (.int .i64 0)∧
 ((w.setCell ⟨b,0,none⟩ (.int .i64 0)).setCell ⟨b,1,none⟩ (.int .i64 0)).cell? ⟨b,1,none⟩=some (.int .i64 0)∧
 (((w.setCell ⟨b,0,none⟩ (.int .i64 0)).setCell ⟨b,1,none⟩ (.int .i64 0)).setCell ⟨b,2,none⟩ (.int .i64 0)).cell? ⟨b,2,none⟩=some (.int .i64 0)∧
 ((((w.setCell ⟨b,0,none⟩ (.int .i64 0)).setCell ⟨b,1,none⟩ (.int .i64 0)).setCell ⟨b,2,none⟩ (.int .i64 0)).setCell ⟨b,3,none⟩ (.int .u8 0)).cell? ⟨b,3,none⟩=some (.int .u8 0):=h.puts (0,0,0,0)
theorem RuleAt.ext {w w':World} {b:Nat} {r:Gs.Rule} (h:RuleAt w b r) (hx:Ext w w'):RuleAt w' b r:=by unfold RuleAt at h⊢;exact Qdb
theorem ZhM {l:List UInt8} (n:Nat) (h0:∀j,2<=j->j<n->Gs.preN l j=none) (h2:2<=n) (h4:n<=4) {a:List UInt8×Gs.Rule} (h:Gs.preN l n=some a):Gs.pre l=some a:=by
 unfold Gs.pre;have:n=2∨n=3∨n=4:=by omega
 rcases this with rfl|rfl|rfl;·rw[h];rfl
 ·rw[h0 2 QhN QhN,h];rfl
 ·rw[h0 2 QhN QhN,h0 3 QhN QhN,h];rfl
theorem ZhN {l:List UInt8} (n:Nat) (h0:∀j,2<=j->j<n->Gs.preN l j=none) (h2:2<=n) (h:4<n∨l.length<n):Gs.pre l=none:=by
 have key:∀j,2<=j->j<=4->Gs.preN l j=none:=by intro j h1 h3;rcases ZnY j n with hh|hh;(·exact h0 j h1 hh);·unfold Gs.preN;rw[ZmF QhN]
 unfold Gs.pre;rw[key 2 QhN QhN,key 3 QhN QhN,key 4 QhN QhN];rfl
theorem ZgG (s:ByteArray) (b:Nat) (w:World) (hd:Dir w b) (hs:s.size<=1000000):
 Calls prog 218 #[.map (some b),.string s] w (PreR (Gs.pre s.data.toList) w):=by
 have HF:=ZmE (fun(n:Nat) (w':World) (hx:Ext w w')=>ZeB (s.extract 0 n) b w' (hd.ext hx) QjO)
 have HP:=ZmE (@ZhM s.data.toList)
 have HN:=ZmE (@ZhN s.data.toList)
 have HE:=ZmE (fun n=>Gs.preN.eq_1 s.data.toList n)
 have HC:=ZmE (fun n=>Zr s n)
 have hlen:=Zb s
 generalize Gs.pre s.data.toList=res at*
 generalize hl:s.data.toList=l at*
 clear hd hl
 have HL:=ZmE hlen
 clear hlen
 go_enter func218,ntmps218
 go_wp2
 go_loopw [7] (fun t wr=>∃n:Nat,2<=n∧n<=5∧t=.int .i64 (n:Int)∧Hid (∀j,2<=j->j<n->Gs.preN l j=none)∧Ext w wr∧Hid (∃r,RuleAt wr w.heap.size r)) (fun t _=>5-(intOf t).toNat)
 case atStart=>exact⟨2,by omega,by omega,rfl,ZmE (fun j h1 h2=>by omega),(Ext.refl w).alloc _,ZmE ⟨(0,0,0,0),Znx _ _⟩⟩
 case round=>
  obtain⟨n,h2,h5,rfl,hno,hx,hr⟩:=hrel;by_cases h4:n<=4
  ·by_cases hle:n<=s.size
   ·obtain⟨r0,hr0⟩:=hr.out
    have H1:=ZmE (HF.out n wr hx)
    have HE1:=ZmE (HE.out n)
    rw[ZmH (by rw[HL.out];exact hle)]at HE1
    rw[HC.out]at H1
    obtain⟨T,hT⟩:∃T,l.take n=T:=⟨_,rfl⟩
    rw[hT]at H1 HE1
    cases hg:Gs.find T with
    |none=>rw[hg]at H1 HE1;have HNX:Hid (∀j,2<=j->j<n+1->Gs.preN l j=none):=ZmE (fun j h1 h3=>by rcases ZnY j n with hh|hh;(·exact hno.out j h1 hh);·obtain rfl:j=n:=QhN;exact HE1.out);clear hg hT HE1;go_wp2_with fail;refine H1.out.mono ?_;rintro e w1 ⟨rfl,hx1⟩;dsimp only[ruleO,ruleV,Option.isSome];have hr1:=hr0.ext hx1;obtain⟨c0,c1,c2,c3⟩:=hr1.cells;have f0:=hr1.free 0;have f1:=hr1.free 1;have f2:=hr1.free 2;have f3:=hr1.free 3;have HR1:=ZmE (hr1.put (0,0,0,0));have hxw:=hx.trans hx1;clear hx hx1 hr1 hr0 hr;go_wp2;go_roundw;(case rel=>exact⟨n+1,by omega,by omega,by go_num,HNX,(((hxw.setCell (ZmK _) _).setCell (ZmK _) _).setCell (ZmK _) _).setCell (ZmK _) _,ZmE ⟨_,HR1.out⟩⟩);case measure=>exact Q8
    |some r=>rw[hg]at H1 HE1;have HRES:Hid (res=some (T,r)):=ZmE (HP.out n hno.out h2 h4 (by rw[HE1.out];rfl));have HT:Hid (encS T=.string (s.extract 0 n)):=ZmE (by rw[<-hT,<-HC.out,Z6]);clear hg HE1 HP HN hT;obtain⟨ra,rb,rc,rd⟩:=r;go_wp2_with fail;refine H1.out.mono ?_;rintro e w1 ⟨rfl,hx1⟩;dsimp only[ruleO,ruleV,Option.isSome];have hr1:=hr0.ext hx1;obtain⟨c0,c1,c2,c3⟩:=hr1.cells;have f0:=hr1.free 0;have f1:=hr1.free 1;have f2:=hr1.free 2;have f3:=hr1.free 3;have hxw:=hx.trans hx1;clear hx hx1 hr0 hr;have hr2:=hr1.put (ra,rb,rc,rd);dsimp only at hr2;clear hr1;go_wp2;have hxw2:Ext w ((((w1.setCell ⟨w.heap.size,0,none⟩ (.int .i64 ra)).setCell ⟨w.heap.size,1,none⟩ (.int .i64 rb)).setCell ⟨w.heap.size,2,none⟩ (.int .i64 rc)).setCell ⟨w.heap.size,3,none⟩ (.int .u8 (rd.toNat:Int))):=(((hxw.setCell (ZmK _) _).setCell (ZmK _) _).setCell (ZmK _) _).setCell (ZmK _) _;generalize((((w1.setCell ⟨w.heap.size,0,none⟩ (.int .i64 ra)).setCell ⟨w.heap.size,1,none⟩ (.int .i64 rb)).setCell ⟨w.heap.size,2,none⟩ (.int .i64 rc)).setCell ⟨w.heap.size,3,none⟩ (.int .u8 (rd.toNat:Int)))=w2 at*;obtain⟨g0,g1,g2,g3⟩:=hr2.cells;dsimp only at g0 g1 g2 g3;have f0:=hr2.free 0;have f1:=hr2.free 1;have f2:=hr2.free 2;have f3:=hr2.free 3;have HQ:=ZmE (hr2.puts (ra,rb,rc,rd));clear hr2 hxw c0 c1 c2 c3;go_region;all_goals go_wp2;obtain⟨p0,p1,p2,p3⟩:=HQ.out;refine ZnQ (v:=.tuple #[.string (s.extract 0 n),.agg #[.int .i64 ra,.int .i64 rb,.int .i64 rc,.int .u8 (rd.toNat:Int)],.bool true]) QjJ rfl ⟨by rw[HRES.out];simp only[preV,HT.out,ruleV],Xf⟩
   ·have HRES:Hid (res=none):=ZmE (HN.out n hno.out h2 (.inr (by rw[HL.out];omega)));obtain⟨r0,hr0⟩:=hr.out;obtain⟨c0,c1,c2,c3⟩:=hr0.cells;have f0:=hr0.free 0;have f1:=hr0.free 1;have f2:=hr0.free 2;have f3:=hr0.free 3;have HQ:=ZmE hr0.puts0;have hle':(s.size:Int)<(n:Int):=QhN;exact Qcc
  ·have HRES:Hid (res=none):=ZmE (HN.out n hno.out h2 (.inl QhN));obtain⟨r0,hr0⟩:=hr.out;obtain⟨c0,c1,c2,c3⟩:=hr0.cells;have f0:=hr0.free 0;have f1:=hr0.free 1;have f2:=hr0.free 2;have f3:=hr0.free 3;have HQ:=ZmE hr0.puts0;exact Qcc
theorem Zev (v:Value) (xs:List Gs.El) (b:Nat) (w:World) (hd:Dir w b) (hl:ESl w v xs) (hn:xs.length<=1000000000000) (hs:∀x∈xs,x.1.length<=maxLen∧x.2.length<=maxLen):
 Calls prog 58 #[.map (some b),v] w fun e w'=>e=.returned (.int .i64 (Gs.verAll xs))∧Ext w w':=by
 obtain⟨a,c,rfl⟩:=hl.form
 have HV:=ZmE (fun(w':World) (hx:Ext w w') (ai d:ByteArray) (h1:ai.size<=maxLen) (h2:d.size<=maxLen)=>Zea ai d b w' (hd.ext hx) h1 h2)
 have HL:=ZmE hl
 have HS:=ZmE hs
 have HR:=ZmE (Gs.verAll.eq_1 xs)
 generalize Gs.verAll xs=res at*
 clear hl hd hs
 by_cases h0:xs=[]
 ·subst h0;rw[ZmH rfl]at HR;clear HV HL HS;go_enter func58,ntmps58;go_wp2;go_ret;exact⟨Zt HR.out.symm,Ext.refl _⟩
 ·rw[ZmF h0]at HR;obtain⟨N,hN⟩:∃N,xs.length=N:=⟨_,rfl⟩;have hN0:0<N:=(by rw[<-hN];exact Qfk);have hN1:((N:Int)==0)=false:=Qai;have HN:=ZmE hN;rw[hN]at hn HL⊢;clear h0 hN;go_enter func58,ntmps58;go_wp2;go_loopw [13] (fun t wr=>∃k:Nat,k<=N∧t=.int .i64 (k:Int)∧Hid (res=Gs.verL (xs.drop k))∧Ext w wr) (fun t _=>N-(intOf t).toNat);(case atStart=>exact⟨0,ZmP _,rfl,HR,Ext.refl w⟩);case round=>obtain⟨k,hk,rfl,hv,hx⟩:=hrel;by_cases hlt:k<N;(·obtain⟨x,hxk⟩:∃x,xs[k]? =some x:=⟨_,ZmG Qif⟩;obtain⟨bb,off,ha,hb,q0,q1⟩:=HL.out.at_ hxk;subst ha;have d0:=(hx.cell (p:=⟨bb,off+k*2,none⟩) hb).trans q0;have d1:=(hx.cell (p:=⟨bb,off+k*2+1,none⟩) hb).trans q1;have hdr:xs.drop k=x::xs.drop (k+1):=Qhx;have HV1:=ZmE (hv.out.trans (by rw[hdr,Gs.verL]));obtain⟨s1,s2⟩:=HS.out x (ZmT hxk);obtain⟨xa,xd⟩:=x;unfold encS at d0 d1;dsimp only at d0 d1 s1 s2 HV1;have HB:Hid ((⟨xa.toArray⟩:ByteArray).data.toList=xa∧(⟨xd.toArray⟩:ByteArray).data.toList=xd∧(⟨xa.toArray⟩:ByteArray).size<=maxLen∧(⟨xd.toArray⟩:ByteArray).size<=maxLen):=ZmE (by simp[ByteArray.size];exact⟨s1,s2⟩);generalize(⟨xa.toArray⟩:ByteArray)=A at*;generalize(⟨xd.toArray⟩:ByteArray)=D at*;clear hxk q0 q1 hdr s1 s2 hv;go_wp2_with fail;obtain⟨b1,b2,b3,b4⟩:=HB.out;have H1:=ZmE (HV.out _ (hx.alloc (.cells #[.string A,.string D] 86)) A D b3 b4);rw[b1,b2]at H1;clear b1 b2 b3 b4;by_cases hz:Gs.ver xa xd=0;(·rw[ZmH hz]at HV1;rw[hz]at H1;clear hz;refine H1.out.mono ?_;rintro e w1 ⟨rfl,hx1⟩;clear d0 d1;go_wp2;go_roundw;(case rel=>exact⟨k+1,by omega,by go_num,HV1,(hx.alloc _).trans hx1⟩);case measure=>exact Q8);·rw[ZmF hz]at HV1;obtain⟨z,hzz⟩:∃z,Gs.ver xa xd=z:=⟨_,rfl⟩;rw[hzz]at H1 HV1 hz;have hz1:(z==0)=false:=Qi2;clear hzz;refine H1.out.mono ?_;rintro e w1 ⟨rfl,hx1⟩;clear d0 d1;go_wp2;go_ret;exact⟨Zt HV1.out.symm,(hx.alloc _).trans hx1⟩);·exact Qc9
def ElsR (r:List Gs.El×Int) (w:World) (e:Ending) (w':World):Prop:=∃v,e=.returned (.tuple #[v,.int .i64 r.2])∧ESl w' v r.1∧Ext w w'
theorem ElsR.err (c:Int) {w w':World} (h:Ext w w'):ElsR ([],c) w (.returned (.tuple #[.slice none 0 0,.int .i64 c])) w':=⟨_,rfl,.inl ⟨rfl,_,_,rfl⟩,h⟩
theorem Zcn {s:ByteArray} (h:0<s.size):¬s.toList=[]:=by rw[Znk];exact Qdy
theorem ZcY {s:ByteArray} (h:0<s.size):s.toList.isEmpty=false:=by rw[Zpk];exact Zcn h
def StrR (r:List UInt8×Int) (w:World) (e:Ending) (w':World):Prop:=e=.returned (.tuple #[encS r.1,.int .i64 r.2])∧Ext w w'
theorem ZcL {xs:List Gs.El} (h:Gs.verL xs=0):∀x∈xs,Gs.ver x.1 x.2=0:=by
 induction xs with
 |nil=>intro x hx;simp at hx
 |cons y ys ih=>intro x hx;unfold Gs.verL at h;split at h;(·rename_i h0;rcases Zn8.1 hx with rfl|hx;(·exact h0);·exact ih h x hx);·rename_i h0;exact absurd h h0
theorem Zbo {a d:List UInt8} (h:Gs.ver a d=0):a.length<=4∧d.length<=90:=by obtain⟨r,h1,h2⟩:=ZcM h;have h3:=(ZaK h1).2.1;have h4:=Zha h2;have h5:=Za1 h1;unfold Gs.RuleOk at h5;omega
theorem ZiJ (xs:List Gs.El) (h:∀x∈xs,Gs.ver x.1 x.2=0):(xs.flatMap Gs.fmtE).length<=96*xs.length:=by
 induction xs with
 |nil=>simp
 |cons x xs ih=>have h1:=Zbo (h x (Znh ..));have h2:=ih (fun y hy=>h y (Zne _ hy));simp only[Zoo,ZmM,ZmQ,Gs.fmtE];omega
theorem Zbu {xs:List Gs.El} (h:Gs.verAll xs=0):Gs.verL xs=0:=by
 unfold Gs.verAll at h;split at h;·simp at h
 ·exact h
theorem ZaN {α:Type} {xs:List α} {k:Nat} {x:α} (h:xs[k]? =some x):xs.take (k+1)=xs.take k++[x]:=by rw[Zo4,h];rfl
theorem Zg3 (v:Value) (xs:List Gs.El) (w:World) (hl:ESl w v xs) (hn:xs.length<=1000000000) (hs:∀x∈xs,x.1.length<=maxLen∧x.2.length<=maxLen) (ht:Spaces w):
 Calls prog 19 #[v] w (StrR (Gs.format xs) w):=by
 obtain⟨a,c,rfl⟩:=hl.form
 have HI:=ZmE (Zbh w ht)
 have HL:=ZmE hl
 have HVA:=ZmE (fun(w':World) (b:Nat) (hd:Dir w' b) (hx:Ext w w')=>Zev _ xs b w' hd (hl.ext hx) QhN hs)
 have HR:=ZmE (Gs.format.eq_1 xs)
 have HVM:Hid (Gs.verAll xs=0->∀x∈xs,Gs.ver x.1 x.2=0):=ZmE (fun h=>ZcL (Zbu h))
 generalize Gs.format xs=res at*
 obtain⟨N,hN⟩:∃N,xs.length=N:=⟨_,rfl⟩
 have HN:=ZmE hN
 rw[hN]at hn HL HVA⊢
 clear hl hs ht hN
 by_cases hz:Gs.verAll xs=0
 ·have HVM:=ZmE (HVM.out hz);rw[hz]at HVA;rw[hz,ZmF QhQ]at HR;clear hz;go_enter func19,ntmps19;go_wp2_with fail;refine HI.out.mono ?_;rintro e W ⟨b,rfl,hd,hb,hxW⟩;have H1:=ZmE (HVA.out W b hd hxW);clear hd HVA HI;go_wp2_with fail;refine H1.out.mono ?_;rintro e V ⟨rfl,hxV⟩;have hxw:=hxW.trans hxV;clear hxW hxV H1;go_wp2;go_loopw [16] (fun t wr=>∃k:Nat,k<=N∧t=.int .i64 (k:Int)∧Lib.IsBuilder 92 5 V.heap.size V.heap.size (Lib.byteCells ((xs.take k).flatMap Gs.fmtE)) wr∧Ext V wr) (fun t _=>N-(intOf t).toNat);(case atStart=>exact⟨0,ZmP _,rfl,Lib.fresh_isBuilder _ _ V,Xe⟩);case round=>obtain⟨k,hk,rfl,hbl,hx⟩:=hrel;have hfl:=ZiJ (xs.take k) (fun x hx=>HVM.out x (Zn0 hx));have htl:(xs.take k).length<=k:=List.length_take_le _ _;by_cases hlt:k<N;(·obtain⟨x,hxk⟩:∃x,xs[k]? =some x:=⟨_,ZmG Qif⟩;obtain⟨bb,off,ha,hb',q0,q1⟩:=HL.out.at_ hxk;subst ha;have hxx:=hxw.trans hx;have d0:=(hxx.cell (p:=⟨bb,off+k*2,none⟩) hb').trans q0;have d1:=(hxx.cell (p:=⟨bb,off+k*2+1,none⟩) hb').trans q1;have HTS:Hid ((xs.take (k+1)).flatMap Gs.fmtE=(xs.take k).flatMap Gs.fmtE++Gs.fmtE x):=ZmE QjW;have hvs:=Zbo (HVM.out x (ZmT hxk));obtain⟨xa,xd⟩:=x;unfold encS at d0 d1;dsimp only at d0 d1 hvs;have HB:Hid ((⟨xa.toArray⟩:ByteArray).data.toList=xa∧(⟨xd.toArray⟩:ByteArray).data.toList=xd):=ZmE ⟨rfl,rfl⟩;generalize(⟨xa.toArray⟩:ByteArray)=A at*;generalize(⟨xd.toArray⟩:ByteArray)=D at*;have hAs:A.size<=4:=(by rw[<-Zb,HB.out.1];exact hvs.1);have hDs:D.size<=90:=(by rw[<-Zb,HB.out.2];exact hvs.2);obtain⟨got,hgot⟩:∃got,(xs.take k).flatMap Gs.fmtE=got:=⟨_,rfl⟩;rw[hgot]at hbl hfl HTS;have hgl:(Lib.byteCells got).length<=96*N:=(by rw[Lib.byteCells,ZmI];omega);obtain⟨R,hR⟩:∃R:ByteArray,R=(⟨#[40]⟩++A++⟨#[41]⟩++D:ByteArray):=⟨_,rfl⟩;have HRL:Hid (R.data.toList=Gs.fmtE (xa,xd)):=ZmE (by obtain⟨b1,b2⟩:=HB.out;rw[hR,<-b1,<-b2];simp[Gs.fmtE,Znt]);have hRs:R.size<=96:=(by rw[<-Zb,HRL.out];simp only[Gs.fmtE,ZmM,ZmQ];omega);have HW:=ZmE (fun(w':World) (hw:Ext V w') (hbl:Lib.IsBuilder 92 5 V.heap.size V.heap.size (Lib.byteCells got) w')=>Zdu V.heap.size V.heap.size _ R w' hbl QhN hw.size);rw[hR]at HW;have HRE:=ZmE hR;clear hgot hxk q0 q1 hR hfl htl hgl hRs hvs;go_wp2_with fail;have H1:=ZmE (HW.out _ (hx.alloc (.cells #[.string A,.string D] 86)) (Zke hbl ((Ext.refl wr).alloc _)));refine H1.out.mono ?_;rintro e w2 ⟨rfl,hbl2,hb2⟩;rw[<-HRE.out]at hbl2;have hx2:Ext V w2:=Zpm (hx.alloc _) hb2;have HBL:Hid (Lib.IsBuilder 92 5 V.heap.size V.heap.size (Lib.byteCells (got++Gs.fmtE (xa,xd))) w2):=ZmE (by have e1:Lib.byteCells (got++Gs.fmtE (xa,xd))=Lib.byteCells got++Lib.strCells R:=(by rw[<-HRL.out];simp[Lib.byteCells,Lib.strCells]);rw[e1];exact hbl2);clear hbl hbl2 hb2 d0 d1 hxx;go_wp2;go_roundw;(case rel=>exact⟨k+1,by omega,by go_num,by rw[HTS.out];exact HBL.out,hx2⟩);case measure=>exact Q8);·obtain rfl:k=N:=QhN;rw[ZmW Qh9]at hbl hfl;clear hk hlt htl;generalize xs.flatMap Gs.fmtE=got at*;have HLEN:=ZmE (Tryz.Builder_Len V.heap.size V.heap.size (Lib.byteCells got) wr hbl);have HSTR:=ZmE (Tryz.Builder_String_any V.heap.size V.heap.size got wr hbl hx.size);have e1:(Lib.byteCells got).length=got.length:=(by rw[Lib.byteCells,ZmI]);rw[e1]at HLEN;rw[HN.out]at hfl;clear e1 hbl;by_cases hlg:4096<got.length;(·rw[ZmH hlg]at HR;go_wp2_with fail;refine HLEN.out.mono ?_;rintro e w1 ⟨rfl,rfl⟩;go_wp2;go_ret2;exact⟨by rw[HR.out];rfl,hxw.trans hx⟩);·rw[ZmF hlg]at HR;have hl2:got.length<=4096:=QhN;clear hlg;go_wp2_with fail;refine HLEN.out.mono ?_;rintro e w1 ⟨rfl,rfl⟩;go_wp2_with fail;refine HSTR.out.mono ?_;rintro e w1 ⟨rfl,hb1⟩;go_wp2;go_ret2;exact⟨by rw[HR.out];rfl,hxw.trans (Zpm hx hb1)⟩
 ·rw[ZmH hz]at HR;obtain⟨z,hzz⟩:∃z,Gs.verAll xs=z:=⟨_,rfl⟩;rw[hzz]at HVA HR hz;have hz1:(z==0)=false:=Qi2;clear hzz HVM;go_enter func19,ntmps19;go_wp2_with fail;refine HI.out.mono ?_;rintro e W ⟨b,rfl,hd,hb,hxW⟩;have H1:=ZmE (HVA.out W b hd hxW);clear hd HVA HI;go_wp2_with fail;refine H1.out.mono ?_;rintro e V ⟨rfl,hxV⟩;go_wp2;go_ret2;exact⟨by rw[HR.out];rfl,hxW.trans hxV⟩
end
end Go.Proofs.YtbngggoccndefaaGreatDoor
namespace Go.Proofs.YtbngggoccndefaaGreatDoor
open Go.Proofs.Tryz
section
open Go.RowKit
theorem ZfF (w:World):(sizeOf 5).run prog w=.ok 1 w:=Qdu
theorem Zdl (w:World):(sizeOf 3).run prog w=.ok 1 w:=Qdu
theorem Zbt {w:World} {v:Value} {xs:List Value} (hs:SlK w v xs) (l h:Nat) (hl:l<=h) (hh:h<=xs.length):
 ∃v',(∀w',(Instr.slice 90 v (some (.int .i64 (l:Int))) (some (.int .i64 (h:Int))) none).run prog w'=.ok v' w')∧SlK w v' ((xs.drop l).take (h-l)):=by
 obtain⟨hsl,a,c,rfl,hc⟩:=hs
 refine⟨_,fun w'=> ?_,Zar hsl hc hl hh⟩
 have e:prog.elem 90=5:=Qdu
 have ht:prog.underlying 90=some (.slice (prog.elem 90)):=by rw[e];exact underlying90
 rw[run_slice_lh w' 90 a xs.length c ht .i64 .i64 (l:Int) (h:Int) QhN QhN QhN,e,ZfF]
 rfl
theorem Zdm {w:World} {v:Value} {xs:List Value} (hs:SlK w v xs) (l:Nat) (hl:l<=xs.length):
 ∃v',(∀w',(Instr.slice 43 v (some (.int .i64 (l:Int))) none none).run prog w'=.ok v' w')∧SlK w v' (xs.drop l):=by
 obtain⟨hsl,a,c,rfl,hc⟩:=hs
 have h1:=Zar hsl hc (l:=l) (h:=xs.length) hl (ZmK _)
 rw[ZmW Qj8]at h1
 refine⟨_,fun w'=> ?_,h1⟩
 have e:prog.elem 43=3:=Qdu
 have ht:prog.underlying 43=some (.slice (prog.elem 43)):=by rw[e];exact underlying43
 rw[run_slice_l w' 43 a xs.length c ht .i64 (l:Int) QhN QhN,e,Zdl]
 rfl
theorem Zfz (l:List Int):∀i:Nat,Lib.idxFrom l 256 i=if(Gs.run l).length=l.length then-1 else((i+(Gs.run l).length:Nat):Int):=by
 induction l with
 |nil=>intro i;rfl
 |cons c l ih=>intro i;by_cases h:c=256;(·subst h;simp[Lib.idxFrom,Gs.run]);·simp only[Lib.idxFrom,Gs.run,ZmF h,ZmQ];rw[ih];by_cases h1:(Gs.run l).length=l.length;(·have h2:(Gs.run l).length+1=l.length+1:=QhN;simp only[ZmH h1,ZmH h2]);·have h2:¬(Gs.run l).length+1=l.length+1:=QhN;simp only[ZmF h1,ZmF h2];omega
theorem Zh7 {w:World} {v:Value} {cs:List Int} (hs:Sl w v (cs.map encI)) (hn:cs.length<=1000000):
 ∀w',Ext w w'->Calls prog 217 #[v,.int .i64 256] w' fun e w''=>e=.returned (.int .i64 (if(Gs.run cs).length=cs.length then-1 else((Gs.run cs).length:Int)))∧w''=w':=by
 intro w' hx
 have hs':=hs.ext hx
 have e1:Lib.idxOf cs 256=(if(Gs.run cs).length=cs.length then-1 else((Gs.run cs).length:Int)):=by unfold Lib.idxOf;rw[Zfz,Zoa]
 rw[<-e1]
 rcases hs' with⟨h0,a,c,rfl⟩|⟨b,off,cap,rfl,hb,hc⟩
 ·have:cs=[]:=QiH;subst this;exact Tryz.slices_Index_int_empty a c 256 w'
 ·rw[ZmI]at hc⊢;have:=Tryz.slices_Index_int b off cs.length cap cs 256 w' (ZmK _) QhN (fun j hj=>by rw[hc j hj,Znm,ZmL,ZmG hj];rfl);rw[ZnN]at this;exact QeN
def ElAt (w:World) (b:Nat) (x:Gs.El):Prop:=w.heap[b]? =some (.cells #[encS x.1,encS x.2] 86 (0,0))
theorem ElAt.cells {w:World} {b:Nat} {x:Gs.El} (h:ElAt w b x):w.cell? ⟨b,0,none⟩=some (encS x.1)∧w.cell? ⟨b,1,none⟩=some (encS x.2):=by unfold ElAt at h;refine⟨?_,?_⟩;all_goals unfold World.cell?;rw[h];rfl
theorem ElAt.free {w:World} {b:Nat} {x:Gs.El} (h:ElAt w b x) (i:Nat):w.frozen? ⟨b,i,none⟩=false:=Zqx h i
theorem ElAt.put {w:World} {b:Nat} {x:Gs.El} (h:ElAt w b x) (y:Gs.El):ElAt ((w.setCell ⟨b,0,none⟩ (encS y.1)).setCell ⟨b,1,none⟩ (encS y.2)) b y:=ZnS (ZnS h _) _
theorem ElAt.puts {w:World} {b:Nat} {x:Gs.El} (h:ElAt w b x) (y:Gs.El):(w.setCell ⟨b,0,none⟩ (encS y.1)).cell? ⟨b,0,none⟩=some (encS y.1)∧((w.setCell ⟨b,0,none⟩ (encS y.1)).setCell ⟨b,1,none⟩ (encS y.2)).cell? ⟨b,1,none⟩=some (encS y.2):=
 ⟨Za3 h QhQ,Za3 (ZnS h _) QhQ⟩
theorem ElAt.ext {w w':World} {b:Nat} {x:Gs.El} (h:ElAt w b x) (hx:Ext w w'):ElAt w' b x:=by unfold ElAt at h⊢;exact Qdb
def NextR (x:Gs.El×Nat×Int) (w:World) (e:Ending) (w':World):Prop:=e=.returned (.tuple #[.agg #[encS x.1.1,encS x.1.2],.int .i64 (x.2.1:Int),.int .i64 x.2.2])∧Ext w w'
theorem Ze1 {c:Int} (h0:0<=c) (h1:c<=127):((Gs.byte c).toNat:Int)=c:=by unfold Gs.byte;rw[Int.emod_eq_of_lt h0 QhN];exact Qfi
theorem run_at {cs:List Int} {j:Nat} (h:j<(Gs.run cs).length):(Gs.run cs)[j]? =cs[j]? :=by
 rcases(Zb0 cs).2 with e|⟨r,e⟩;·rw[e]
 ·(conv=>rhs;rw[e]);rw[Zol h]
end
end Go.Proofs.YtbngggoccndefaaGreatDoor
namespace Go.Proofs.YtbngggoccndefaaGreatDoor
open Go.Proofs.Tryz
section
open Go.RowKit Go.WideMaps Go.Maps
theorem ZdO {c:List Int} {ai:List UInt8} {r:Gs.Rule} (h0:(Gs.run c).length≠0) (hp:Gs.pre (Gs.text (Gs.run c))=some (ai,r)):
 (Gs.isFix r=true->(Gs.run c).length<ai.length+r.2.2.1.toNat->Gs.next c=(([],[]),0,10))∧
 (Gs.isFix r=true->¬(Gs.run c).length<ai.length+r.2.2.1.toNat->Gs.ver ai (((Gs.text (Gs.run c)).drop ai.length).take r.2.2.1.toNat)≠0->Gs.next c=(([],[]),0,Gs.ver ai (((Gs.text (Gs.run c)).drop ai.length).take r.2.2.1.toNat)))∧
 (Gs.isFix r=true->¬(Gs.run c).length<ai.length+r.2.2.1.toNat->Gs.ver ai (((Gs.text (Gs.run c)).drop ai.length).take r.2.2.1.toNat)=0->Gs.next c=((ai,((Gs.text (Gs.run c)).drop ai.length).take r.2.2.1.toNat),ai.length+r.2.2.1.toNat,0))∧
 (Gs.isFix r=false->Gs.ver ai ((Gs.text (Gs.run c)).drop ai.length)≠0->Gs.next c=(([],[]),0,Gs.ver ai ((Gs.text (Gs.run c)).drop ai.length)))∧
 (Gs.isFix r=false->Gs.ver ai ((Gs.text (Gs.run c)).drop ai.length)=0->(Gs.run c).length+1=c.length->Gs.next c=(([],[]),0,9))∧
 (Gs.isFix r=false->Gs.ver ai ((Gs.text (Gs.run c)).drop ai.length)=0->(Gs.run c).length+1≠c.length->Gs.next c=((ai,(Gs.text (Gs.run c)).drop ai.length),min ((Gs.run c).length+1) c.length,0)):=by
 unfold Gs.next
 rw[ZmF h0,hp]
 dsimp only
 refine⟨fun h1 h2=> ?_,fun h1 h2 h3=> ?_,fun h1 h2 h3=> ?_,fun h1 h2=> ?_,fun h1 h2 h3=> ?_,fun h1 h2 h3=> ?_⟩
 ·rw[ZmH h1,ZmH h2]
 ·rw[ZmH h1,ZmF h2,ZmH h3]
 ·rw[ZmH h1,ZmF h2,ZmF (by simpa using h3)]
 ·rw[ZmF (by rw[h1];simp),ZmH h2]
 ·rw[ZmF (by rw[h1];simp),ZmF Qie,ZmH h3]
 ·rw[ZmF (by rw[h1];simp),ZmF Qie,ZmF h3]
theorem Zct {l a:List UInt8} {r:Gs.Rule} (h:Gs.pre l=some (a,r)):a.length<=l.length∧Gs.RuleOk r∧a.length<=4:=by have h1:=Zcs h;exact⟨h1.2.2,Za1 h1.1,(ZaK h1.1).2.1⟩
theorem Zjg (v:Value) (cs:List Int) (b:Nat) (w:World) (hd:Dir w b) (hv:SlK w v (cs.map encI)) (hn:cs.length<=4096) (hok:cs.all Gs.okCh=true) (h0:cs≠ []):
 Calls prog 142 #[.map (some b),v] w (NextR (Gs.next cs) w):=by
 obtain⟨hsl,av,cv,rfl,hcv⟩:=hv
 rw[ZmI]at hsl hcv⊢
 have HIX:=ZmE (Zh7 hsl QhN)
 have HN:=ZmE (Eq.refl cs.length)
 have HOK:=ZmE (ZcH hok)
 have hrl:=Zd8 cs
 have HDV:=ZmE (fun(w':World) (hx:Ext w w') (ai d:ByteArray) (h1:ai.size<=maxLen) (h2:d.size<=maxLen)=>Zea ai d b w' (Dir.ext hd hx) h1 h2)
 have HPX:=ZmE (fun(w':World) (hx:Ext w w') (s:ByteArray) (h1:s.size<=1000000)=>ZgG s b w' (Dir.ext hd hx) h1)
 have HSL:=ZmE hsl
 have HNX:=ZmE (Gs.next.eq_1 cs)
 obtain⟨b0,o0,hav,hbv,hq9⟩:=hsl.at_ (k:=0) (by rw[ZmI];exact Zob.2 h0)
 clear hq9
 subst hav
 have HCC:Hid (∀w',Ext w w'->∀j,j<(Gs.run cs).length->w'.cell? ⟨b0,o0+j,none⟩=some (.int .i64 ((Gs.run cs).getD j 0))):=ZmE (fun w' hx j hj=>by obtain⟨b1,o1,e1,_,hc⟩:=hsl.at_ (k:=j) QhR;injection e1 with e1;injection e1 with e1 e2;subst e1 e2;rw[hx.cell (p:=⟨b0,o0+j,none⟩) hbv,hc,ZnO,ZmL,run_at hj,ZmG QhN];rfl)
 obtain⟨N,hN⟩:∃N,cs.length=N:=⟨_,rfl⟩
 obtain⟨m,hm⟩:∃m,(Gs.run cs).length=m:=⟨_,rfl⟩
 obtain⟨b9,hb9⟩:∃b9,b9=w.heap.size+1:=⟨_,rfl⟩
 have HNS:=ZmE (fun(h:(Gs.run cs).length≠0) (ai:List UInt8) (r:Gs.Rule) (hp:Gs.pre (Gs.text (Gs.run cs))=some (ai,r))=>ZdO h hp)
 generalize hres:Gs.next cs=res at*
 have hN0:0<N:=by rw[<-hN];exact Qfk
 rw[hm]at hrl HIX HCC HNX
 rw[hN]at hrl hn hcv HIX HSL⊢
 clear HN hd hsl hok h0 hres
 have HM:=ZmE hm
 have HN:=ZmE hN
 clear hm hN
 have E0:∀(A:World),ElAt (A.alloc (.cells #[.string ⟨#[]⟩,.string ⟨#[]⟩] 86)) A.heap.size ([],[]):=fun A=>Znx _ _
 have HE0:=ZmE (E0 w)
 clear E0
 by_cases hm0:m=0
 ·rw[ZmH hm0]at HNX;subst hm0;rw[ZmF QhN]at HIX;have HQ:=ZmE (HE0.out.puts ([],[]));go_enter func142,ntmps142;go_wp2_with fail;refine(HIX.out _ ((Ext.refl w).alloc _)).mono ?_;rintro e w1 ⟨rfl,rfl⟩;go_wp2;refine ZnQ (v:=.tuple #[.agg #[.string ⟨#[]⟩,.string ⟨#[]⟩],.int .i64 0,.int .i64 9]) (by simp[results,results142,go_sem]) rfl ⟨by rw[HNX.out];rfl,Xf⟩
 ·rw[ZmF hm0]at HNX;have HNS:=ZmE (HNS.out (by rw[HM.out];exact hm0));have hm1:((m:Int)==0)=false:=Qai;have hm2:(0:Int)<=(m:Int):=QhN;have hml:m<=4096:=QhN;have hmk:=Zpa (P:=prog) 90 5 (.int .u8 0) 1 underlying90 QhO rfl .i64 .i64 m QhN QhN;by_cases hmf:m=N
  ·rw[ZmH hmf]at HIX;clear hm0;subst hmf;go_enter func142,ntmps142;go_wp2_with fail;refine(HIX.out _ ((Ext.refl w).alloc _)).mono ?_;rintro e w1 ⟨rfl,rfl⟩;go_wp2;clear hmk;go_loopw [26] (fun i wr=>∃j:Nat,j<=m∧i=.int .i64 (j:Int)∧wr.rowIs (w.heap.size+1) 5 m (fun k=>if k<j then encB (Gs.byte ((Gs.run cs).getD k 0))else .int .u8 0)∧Ext (w.alloc (.cells #[.string ⟨#[]⟩,.string ⟨#[]⟩] 86)) wr) (fun i _=>m-(intOf i).toNat);(case atStart=>exact Qc8);case round=>
    obtain⟨j,hj,rfl,hrow,hxr⟩:=hrel;by_cases hlt:j<m;(·exact Qah)
    ·obtain rfl:j=m:=by omega
     have hxw:Ext w wr:=((Ext.refl w).alloc _).trans hxr
     have hst:SlK wr (.slice (some ⟨w.heap.size+1,0,none⟩) j j) ((Gs.text (Gs.run cs)).map encB):=QbA
     have hcv:=Zl hst.1
     have HEL:=ZmE (HE0.out.ext hxr)
     have HST:=ZmE hst
     have htl:(Gs.text (Gs.run cs)).length=j:=by rw[ZP,HM.out]
     generalize Gs.text (Gs.run cs)=tx at*
     obtain⟨TX,hTX⟩:∃TX:ByteArray,TX=⟨tx.toArray⟩:=⟨_,rfl⟩
     have HTX:Hid (TX.data.toList=tx):=ZmE (by rw[hTX])
     rw[<-hTX]at hcv
     have hTs:TX.size=j:=by rw[<-Zb,HTX.out,htl]
     have HP1:=ZmE (HPX.out wr hxw TX QhN)
     rw[HTX.out]at HP1
     have HTL:=ZmE (And.intro htl hTs)
     clear hTX hst hj hlt htl hTs hrow HPX HIX HSL HCC HOK
     cases hp:Gs.pre tx with
     |none=>exact Qax
     |some q=>obtain⟨ai,r⟩:=q;rw[hp]at HP1;obtain⟨al,rok,al4⟩:=Zct hp;have HS6:=ZmE (HNS.out ai r hp);obtain⟨ra,rb,rc,rd⟩:=r;obtain⟨k0,k3,l1,lh,h9,_⟩:=rok;dsimp only at k0 k3 l1 lh h9 HS6;obtain⟨H,rfl⟩:∃H:Nat,rc=(H:Int):=⟨rc.toNat,by omega⟩;rw[ZnW]at HS6;obtain⟨AI,hAI⟩:∃AI:ByteArray,AI.data.toList=ai:=⟨⟨ai.toArray⟩,rfl⟩;have HAI:Hid (encS ai=.string AI):=ZmE (by rw[<-hAI,Z6]);have hAL:ai.length=AI.size:=Qja;rw[hAL]at al al4 HS6;have HAE:=ZmE hAI;have hAj:AI.size<=j:=(by have:=HTL.out.1;omega);have HX:=ZmE (fun w=>ZdI (ra,rb,(H:Int),rd) w);rw[HM.out]at HS6;clear hAI hAL al hp HNX HNS k0 k3;cases hf:Gs.isFix (ra,rb,(H:Int),rd);(·have e0:((ra,rb,(H:Int),rd).2.1==(ra,rb,(H:Int),rd).2.2.1)=false:=hf;rw[e0]at HX;clear e0;obtain⟨vd,hsl,hsd⟩:=Zbt HST.out AI.size j hAj QiJ;rw[<-Zn6,<-Zn5,ZmW Qj0]at hsd;obtain⟨D,hD⟩:∃D:ByteArray,D.data.toList=tx.drop AI.size:=⟨⟨(tx.drop AI.size).toArray⟩,rfl⟩;have HD:Hid (encS (tx.drop AI.size)=.string D):=ZmE (by rw[<-hD,Z6]);have hDs:D.size<=4096:=Qf3;have HCV:Hid (∀w',Ext wr w'->(convert 90 9 vd).run prog w'=.ok (.string D) w'):=ZmE (fun w' hx=>by have:=Zl (hsd.1.ext hx);rw[this,<-hD,Zy]);have HV1:=ZmE (fun w' hx=>HDV.out w' hx AI D QhX QhX);rw[HAE.out,hD]at HV1;obtain⟨_,_,_,S4,S5,S6⟩:=HS6.out;have HS4:=ZmE (S4 hf);have HS5:=ZmE (S5 hf);have HS6':=ZmE (S6 hf);generalize tx.drop AI.size=d at*;clear HS6 hf S4 S5 S6 hsd hD;by_cases hver:Gs.ver ai d=0;(·rw[hver]at HV1;have HS5:=ZmE (HS5.out hver);have HS6:=ZmE (HS6'.out hver);clear hver HS4 HS6';have HR:Hid (res=((ai,d),j,0)):=ZmE (by rw[HS6.out (by rw[HN.out];omega),HN.out,Nat.min_eq_right QhN]);have hmin:min ((j:Int)+1) (j:Int)=(j:Int):=QhN;go_wp2_with fail;refine HP1.out.mono ?_;rintro e w3 ⟨rfl,hx3⟩;simp only[preV,ruleV,HAI.out];go_wp2_with fail;refine(HX.out _).mono ?_;rintro e w4 ⟨rfl,hx4⟩;have hx34:Ext wr w4:=(hx3.alloc _).trans hx4;have hel4:=HEL.out.ext hx34;obtain⟨g0,g1⟩:=hel4.cells;have f0:=hel4.free 0;have f1:=hel4.free 1;have c2:w4.cell? ⟨w3.heap.size,2,none⟩=some (.int .i64 (H:Int)):=Qat;have hxa:Ext w w4:=hxw.trans hx34;clear hx3 hx4;have hcv2:=HCV.out w4 hx34;go_wp2_with fail;refine(HV1.out _ ((hxa.setCell (ZmK _) _).setCell (ZmK _) _)).mono ?_;rintro e w5 ⟨rfl,hx5⟩;have hel5:=(hel4.put (ai,d)).ext Qis;obtain⟨i0,i1⟩:=hel5.cells;simp only[HAI.out,HD.out]at i0 i1;have f0:=hel5.free 0;have f1:=hel5.free 1;have hxb:Ext w w5:=((hxa.setCell (ZmK _) _).setCell (ZmK _) _).trans hx5;have HQ:=ZmE (hel5.puts (ai,d));clear hx5 hel5 hel4 g0 g1;go_wp2;obtain⟨p0,p1⟩:=HQ.out;refine ZnQ (v:=.tuple #[.agg #[.string AI,.string D],.int .i64 (j:Int),.int .i64 0]) QiQ rfl ⟨by rw[HR.out];simp only[HAI.out,HD.out],Xf⟩);·exact Qgs);·exact Qp
  ·rw[ZmF hmf]at HIX;have hmN:m+1<=N:=QhN;clear hm0 hmf;go_enter func142,ntmps142;go_wp2_with fail;refine(HIX.out _ ((Ext.refl w).alloc _)).mono ?_;rintro e w1 ⟨rfl,rfl⟩;go_wp2;clear hmk;go_loopw [26] (fun i wr=>∃j:Nat,j<=m∧i=.int .i64 (j:Int)∧wr.rowIs (w.heap.size+1) 5 m (fun k=>if k<j then encB (Gs.byte ((Gs.run cs).getD k 0))else .int .u8 0)∧Ext (w.alloc (.cells #[.string ⟨#[]⟩,.string ⟨#[]⟩] 86)) wr) (fun i _=>m-(intOf i).toNat);(case atStart=>exact Qc8);case round=>
    obtain⟨j,hj,rfl,hrow,hxr⟩:=hrel;by_cases hlt:j<m;(·exact Qah)
    ·obtain rfl:j=m:=by omega
     have hxw:Ext w wr:=((Ext.refl w).alloc _).trans hxr
     have hst:SlK wr (.slice (some ⟨w.heap.size+1,0,none⟩) j j) ((Gs.text (Gs.run cs)).map encB):=QbA
     have hcv:=Zl hst.1
     have HEL:=ZmE (HE0.out.ext hxr)
     have HST:=ZmE hst
     have htl:(Gs.text (Gs.run cs)).length=j:=by rw[ZP,HM.out]
     generalize Gs.text (Gs.run cs)=tx at*
     obtain⟨TX,hTX⟩:∃TX:ByteArray,TX=⟨tx.toArray⟩:=⟨_,rfl⟩
     have HTX:Hid (TX.data.toList=tx):=ZmE (by rw[hTX])
     rw[<-hTX]at hcv
     have hTs:TX.size=j:=by rw[<-Zb,HTX.out,htl]
     have HP1:=ZmE (HPX.out wr hxw TX QhN)
     rw[HTX.out]at HP1
     have HTL:=ZmE (And.intro htl hTs)
     clear hTX hst hj hlt htl hTs hrow HPX HIX HSL HCC HOK
     cases hp:Gs.pre tx with
     |none=>exact Qax
     |some q=>obtain⟨ai,r⟩:=q;rw[hp]at HP1;obtain⟨al,rok,al4⟩:=Zct hp;have HS6:=ZmE (HNS.out ai r hp);obtain⟨ra,rb,rc,rd⟩:=r;obtain⟨k0,k3,l1,lh,h9,_⟩:=rok;dsimp only at k0 k3 l1 lh h9 HS6;obtain⟨H,rfl⟩:∃H:Nat,rc=(H:Int):=⟨rc.toNat,by omega⟩;rw[ZnW]at HS6;obtain⟨AI,hAI⟩:∃AI:ByteArray,AI.data.toList=ai:=⟨⟨ai.toArray⟩,rfl⟩;have HAI:Hid (encS ai=.string AI):=ZmE (by rw[<-hAI,Z6]);have hAL:ai.length=AI.size:=Qja;rw[hAL]at al al4 HS6;have HAE:=ZmE hAI;have hAj:AI.size<=j:=(by have:=HTL.out.1;omega);have HX:=ZmE (fun w=>ZdI (ra,rb,(H:Int),rd) w);rw[HM.out]at HS6;clear hAI hAL al hp HNX HNS k0 k3;cases hf:Gs.isFix (ra,rb,(H:Int),rd);(·have e0:((ra,rb,(H:Int),rd).2.1==(ra,rb,(H:Int),rd).2.2.1)=false:=hf;rw[e0]at HX;clear e0;obtain⟨vd,hsl,hsd⟩:=Zbt HST.out AI.size j hAj QiJ;rw[<-Zn6,<-Zn5,ZmW Qj0]at hsd;obtain⟨D,hD⟩:∃D:ByteArray,D.data.toList=tx.drop AI.size:=⟨⟨(tx.drop AI.size).toArray⟩,rfl⟩;have HD:Hid (encS (tx.drop AI.size)=.string D):=ZmE (by rw[<-hD,Z6]);have hDs:D.size<=4096:=Qf3;have HCV:Hid (∀w',Ext wr w'->(convert 90 9 vd).run prog w'=.ok (.string D) w'):=ZmE (fun w' hx=>by have:=Zl (hsd.1.ext hx);rw[this,<-hD,Zy]);have HV1:=ZmE (fun w' hx=>HDV.out w' hx AI D QhX QhX);rw[HAE.out,hD]at HV1;obtain⟨_,_,_,S4,S5,S6⟩:=HS6.out;have HS4:=ZmE (S4 hf);have HS5:=ZmE (S5 hf);have HS6':=ZmE (S6 hf);generalize tx.drop AI.size=d at*;clear HS6 hf S4 S5 S6 hsd hD;by_cases hver:Gs.ver ai d=0;(·rw[hver]at HV1;have HS5:=ZmE (HS5.out hver);have HS6:=ZmE (HS6'.out hver);clear hver HS4 HS6';by_cases hlast:j+1=N;(·have HR:Hid (res=(([],[]),0,9)):=ZmE (HS5.out (by rw[HN.out];exact hlast));have hji:(j:Int)+1=(N:Int):=QhN;clear HS5 HS6 hlast hmN;go_wp2_with fail;refine HP1.out.mono ?_;rintro e w3 ⟨rfl,hx3⟩;simp only[preV,ruleV,HAI.out];go_wp2_with fail;refine(HX.out _).mono ?_;rintro e w4 ⟨rfl,hx4⟩;have hx34:Ext wr w4:=(hx3.alloc _).trans hx4;have hel4:=HEL.out.ext hx34;obtain⟨g0,g1⟩:=hel4.cells;have f0:=hel4.free 0;have f1:=hel4.free 1;have c2:w4.cell? ⟨w3.heap.size,2,none⟩=some (.int .i64 (H:Int)):=Qat;have hxa:Ext w w4:=hxw.trans hx34;clear hx3 hx4;have hcv2:=HCV.out w4 hx34;go_wp2_with fail;refine(HV1.out _ ((hxa.setCell (ZmK _) _).setCell (ZmK _) _)).mono ?_;rintro e w5 ⟨rfl,hx5⟩;have hel5:=(hel4.put (ai,d)).ext Qis;obtain⟨i0,i1⟩:=hel5.cells;simp only[HAI.out,HD.out]at i0 i1;have f0:=hel5.free 0;have f1:=hel5.free 1;have hxb:Ext w w5:=((hxa.setCell (ZmK _) _).setCell (ZmK _) _).trans hx5;have HQ:=ZmE (hel5.puts ([],[]));clear hx5 hel5 hel4 g0 g1;go_wp2;obtain⟨p0,p1⟩:=HQ.out;refine ZnQ (v:=.tuple #[.agg #[.string ⟨#[]⟩,.string ⟨#[]⟩],.int .i64 0,.int .i64 9]) Qii rfl ⟨by rw[HR.out];rfl,Xf⟩);·have HR:Hid (res=((ai,d),j+1,0)):=ZmE (by rw[HS6.out (by rw[HN.out];exact hlast),HN.out,Zop QhN]);obtain⟨Q,hQ⟩:∃Q,Q=j+1:=⟨_,rfl⟩;rw[<-hQ]at HR;have hji:(j:Int)+1=(Q:Int):=QhN;have hQN:Q<N:=QhN;have hQN2:((Q:Int)==(N:Int))=false:=Qai;have hjQ:j<Q:=QhN;have hmin:min (Q:Int) (N:Int)=(Q:Int):=QhN;clear HS5 HS6 hlast hmN hQ;exact QH);·exact Qgs);·exact Qp
end
end Go.Proofs.YtbngggoccndefaaGreatDoor
