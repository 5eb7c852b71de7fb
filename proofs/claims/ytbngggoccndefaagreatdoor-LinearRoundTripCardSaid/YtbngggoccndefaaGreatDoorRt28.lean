/-
  Laid.
-/
import Derived.Test.YtbngggoccndefaaGreatDoorRt27
set_option maxHeartbeats 8000000
set_option maxRecDepth 100000
set_option linter.all false
namespace Go.Proofs.YtbngggoccndefaaGreatDoor
open Go.Proofs.Tryz
section
open Go.RowKit
section
variable {α:Type} {enc:α->List Value} {k:Nat} {T:TypeId}
theorem cW {w:World} {ops:Array Oper} {rest:List Oper} {o:Oper} {a:Act} {Q:Exit->Act->World->Prop} (hgd:o.guard=none) (s x:Operand) (ST T:TypeId) (z:Value) (bytes:Nat)
 (ho:o.op=.call {callee:=.builtin .append,args:= #[s,x],argTypes:= #[ST,ST]})
 (hT:prog.underlying ST=some (.slice T)) (hi:(prog.info? T).map (fun i=>(i.zero,i.size,i.bytes))=some (some z,k,bytes)) (hz:z.cells.size=k) (hk0:0<k) (hby:bytes<=1000)
 (hk:∀x,(enc x).length=k) (h1:∀x,∀u∈enc x,u.oneCell'=true)
 (B:Nat) (v:Value) (xs:List α) (hs:a.eval s=v) (hown:KOwn T k enc w B v xs) (b n:Nat) (ys:List α) (hx:a.eval x=.slice (some ⟨b,0,none⟩) n n) (hn:ys.length=n)
 {cs:Array Value} {ty:TypeId} (hb:w.heap[b]? =some (.cells cs ty (0,0))) (hcs:cs.toList=ZK enc ys) (hl:xs.length+n<=1000000000) (hB:B<=w.heap.size)
 (h:∀v' w',KOwn T k enc w' B v' (xs++ys)->w.grownBy w' v.ownBlock->wpList prog ops Q rest (a.put o.dst v') w'):wpList prog ops Q (o::rest) a w:=by
 obtain⟨i0,hi,hz0,hz1,hz2⟩:=C5 hi
 refine VN _ hgd s x ST ho B T i0 z k bytes hT hi hz0 hz1 hz2 hz hk0 v xs.length (ZK enc xs) hs hown ⟨b,0,none⟩ n n (ZK enc ys) hx (by rw[gM hk,hn]) ?_ (gP h1 ys) ?_ ?_ hB ?_
 ·intro j r hj;rw[VL];refine Zk hb ?_;rw[<-hcs]at hj;simpa using hj
 ·exact F7
 ·exact L3 (VO hl hby) J0
 ·intro v' w' h1 h2 _;refine h v' w' ?_ h2;unfold KOwn;rw[O0,gN,hn];exact h1
end
def mvC (m:Cs.Mv):List Value:=[.int .i64 m.1,.int .i64 (m.2.1:Int),.int .i64 (m.2.2:Int)]
theorem UJ (m:Cs.Mv):(mvC m).length=3:=rfl
theorem cX:∀(m:Cs.Mv),∀u∈mvC m,u.oneCell'=true:=by intro m u hu;simp only[mvC,U1,L4,M4]at hu;rcases hu with rfl|rfl|rfl<;>rfl
abbrev MOwn:=KOwn (α:=Cs.Mv) 220 3 mvC
theorem YM {w:World} {ops:Array Oper} {rest:List Oper} {o:Oper} {a:Act} {Q:Exit->Act->World->Prop} (hgd:o.guard=none) (s x:Operand)
 (ho:o.op=.call {callee:=.builtin .append,args:= #[s,x],argTypes:= #[221,221]})
 (B:Nat) (v:Value) (xs:List Cs.Mv) (hs:a.eval s=v) (hown:MOwn w B v xs) (b n:Nat) (ys:List Cs.Mv) (hx:a.eval x=.slice (some ⟨b,0,none⟩) n n) (hn:ys.length=n)
 {cs:Array Value} {ty:TypeId} (hb:w.heap[b]? =some (.cells cs ty (0,0))) (hcs:cs.toList=ZK mvC ys) (hl:xs.length+n<=1000000000) (hB:B<=w.heap.size)
 (h:∀v' w',MOwn w' B v' (xs++ys)->w.grownBy w' v.ownBlock->wpList prog ops Q rest (a.put o.dst v') w'):wpList prog ops Q (o::rest) a w:=
 cW hgd s x 221 220 (.agg #[.int .i64 0,.int .i64 0,.int .i64 0]) 24 ho underlying221 M0 rfl J0 J0 UJ cX B v xs hs hown b n ys hx hn hb hcs hl hB h
def MvE (l:List Cs.Mv) (w:World) (e:Ending) (w':World):Prop:=∃v,e=.returned v∧MOwn w' w.heap.size v l∧Ext w w'
def Cs.pre (cs:List Int) (i st:Nat):List Cs.Mv:=if st=2 then [(98,i,1),(99,i,4),(100,i,3)]else if st=3 then [(98,i,0),(99,i,4),(101,i,2)]else [(100,i,3),(101,i,2)]++Cs.one (Cs.pairAt cs i) (i+2,4)
theorem Cs.moves_big (cs:List Int) (i st:Nat) (h:2<=st):Cs.moves cs i st=Cs.pre cs i st++Cs.one (Cs.own (cs.getD i 0) st) (i+1,st):=by unfold Cs.moves Cs.pre;rw[D0 C0,D0 C0]
theorem Ext.blk {w w':World} {b:Nat} {o:Obj} (h:w.heap[b]? =some o) (hx:Ext w w'):w'.heap[b]? =some o:=AD
theorem XZ (w:World) (A B:Obj):((w.alloc A).alloc B).heap[w.heap.size+1]? =some B:=by have:=E2 (w.alloc A) B;exact V6
def MvM (w:World) (i p:Int) (l:List Cs.Mv) (v:Value) (wx:World):Prop:=MOwn wx (w.heap.size+1) v l∧Ext (w.alloc (.cells #[.int .i64 i,.int .i64 p] 218)) wx
theorem RK {w:World} {b:Nat} {x y:Value} {t:TypeId} (h:w.heap[b]? =some (.cells #[x,y] t (0,0))):
 b<w.heap.size∧w.cell? ⟨b,0,none⟩=some x∧w.cell? ⟨b,1,none⟩=some y:=⟨(F3.1 h).1,Zk h rfl,Zk h rfl⟩
theorem MvM.of {w w5:World} {i p:Int} {o:Obj} {l:List Cs.Mv} {v:Value} (h:MOwn w5 (w.heap.size+1) v l) (hg:((w.alloc (.cells #[.int .i64 i,.int .i64 p] 218)).alloc o).grownBy w5 none):MvM w i p l v w5:=
 ⟨h,((Ext.refl _).alloc o).ofGrown hg (fun q hq=>by cases hq)⟩
theorem MvM.more {w w1 w5:World} {i p:Int} {o:Obj} {l l':List Cs.Mv} {v v':Value} (h:MvM w i p l v w1) (h':MOwn w5 (w.heap.size+1) v' l') (hg:(w1.alloc o).grownBy w5 v.ownBlock):MvM w i p l' v' w5:=
 ⟨h',(h.2.alloc o).ofGrown hg (fun q hq=>by have:=h.1.low q hq;simp;omega)⟩
theorem AE (v:Value) (cs:List Int) (i s:Nat) (w:World) (hv:Sl w v (cs.map encI)) (hl:cs.length<=4096) (hok:∀c∈cs,Cs.okC c) (hi:i<cs.length) (hs:s<=4):
 Calls prog 186 #[v,.agg #[.int .i64 (i:Int),.int .i64 (s:Int)]] w (MvE (Cs.moves cs i s) w):=by
 obtain⟨a,c,rfl⟩:=hv.form
 rw[N0]at hv⊢
 obtain⟨n,hn⟩:∃n,n=cs.length:=⟨_,rfl⟩
 rw[<-hn]at hv hl hi⊢
 have HN:=B0 hn
 obtain⟨x,hxi⟩:∃x,cs[i]? =some x:=⟨_,P0 (by rw[<-hn];exact hi)⟩
 have hgd:cs.getD i 0=x:=by rw[A1,hxi];rfl
 have hx:=hok x (I1 hxi)
 obtain⟨b,o,ha,hb,hc⟩:=hv.int_at (Ext.refl w) hxi
 subst ha
 have hx0:0<=x:=UK
 have hx1:x<=259:=UK
 have hiI:(i:Int)<(n:Int):=by omega
 have HV:=B0 hv
 have HOK:=B0 hok
 have HGD:=B0 hgd
 have HXI:=B0 hxi
 clear hv hok hgd hxi hn hx
 obtain⟨p,hp⟩:∃p:Int,p=(s:Int):=⟨_,rfl⟩
 rw[<-hp]
 have h5:s=0∨s=1∨(s=2∨s=3∨s=4):=by omega
 rcases h5 with rfl|rfl|hs3
 ·obtain rfl:p=0:=hp
  have HM:Hid (Cs.moves cs i 0=Cs.one (Cs.valOf x 2) (i+1,3)):=B0 (by rw[<-HGD.out];rfl)
  have HC:=B0 (fun w=>NQ x 2 2 w rfl (.inl rfl) hx0 hx1)
  generalize Cs.valOf x 2=ov at*
  generalize Cs.moves cs i 0=res at*
  cases ov with
  |none=>exact AF
  |some y=>unfold optV at HC;dsimp only[Option.getD_some,Option.isSome_some]at HC;go_enter func186,ntmps186;go_wp2_with fail;refine(HC.out _).mono ?_;rintro e w1 ⟨rfl,rfl⟩;go_wp2_with (at_builtin;refine YM rfl _ _ rfl w.heap.size _ [] rfl (KOwn.nil _ _ _ _ _) _ 1 [(y,i+1,3)] rfl rfl (XZ _ _ _) rfl L0 I2 ?_);intro v' w5 hown5 hg5;have HX5:=B0 ((((Ext.refl w).alloc (.cells #[.int .i64 (i:Int),.int .i64 0] 218)).alloc (.cells #[.int .i64 y,.int .i64 ((i:Int)+1),.int .i64 3] 220)).ofGrown hg5 (fun q hq=>by cases hq));exact AG
 ·obtain rfl:p=1:=hp
  have HM:Hid (Cs.moves cs i 1=Cs.one (Cs.valOf x 3) (i+1,2)):=B0 (by rw[<-HGD.out];rfl)
  have HC:=B0 (fun w=>NQ x 3 3 w rfl (.inr (.inl rfl)) hx0 hx1)
  generalize Cs.valOf x 3=ov at*
  generalize Cs.moves cs i 1=res at*
  cases ov with
  |none=>exact AF
  |some y=>unfold optV at HC;dsimp only[Option.getD_some,Option.isSome_some]at HC;go_enter func186,ntmps186;go_wp2_with fail;refine(HC.out _).mono ?_;rintro e w1 ⟨rfl,rfl⟩;go_wp2_with (at_builtin;refine YM rfl _ _ rfl w.heap.size _ [] rfl (KOwn.nil _ _ _ _ _) _ 1 [(y,i+1,2)] rfl rfl (XZ _ _ _) rfl L0 I2 ?_);intro v' w5 hown5 hg5;have HX5:=B0 ((((Ext.refl w).alloc (.cells #[.int .i64 (i:Int),.int .i64 1] 218)).alloc (.cells #[.int .i64 y,.int .i64 ((i:Int)+1),.int .i64 2] 220)).ofGrown hg5 (fun q hq=>by cases hq));exact AG
 ·have HMV:Hid (Cs.moves cs i s=Cs.pre cs i s++Cs.one (Cs.own x s) (i+1,s)):=B0 (by rw[Cs.moves_big cs i s C0,HGD.out]);have hp2:2<=p:=C0;have hp4:p<=4:=C0;obtain⟨P,hP⟩:∃P,P=Cs.pre cs i s:=⟨_,rfl⟩;rw[<-hP]at HMV;have HP:=B0 hP;clear hP;generalize Cs.moves cs i s=res at*;go_enter func186,ntmps186;go_upto_block 0 with fail;go_cut [7]from 14 (fun s7 wx=>Hid (MvM w (i:Int) p P s7 wx));case first=>
   rcases hs3 with rfl|rfl|rfl;(·obtain rfl:p=2:=hp;obtain rfl:P=[(98,i,1),(99,i,4),(100,i,3)]:=HP.out;go_wp2_with (at_builtin;refine YM rfl _ _ rfl (w.heap.size+1) _ [] rfl (KOwn.nil _ _ _ _ _) _ 3 [(98,i,1),(99,i,4),(100,i,3)] rfl rfl (XZ _ _ _) rfl L0 L0 ?_);intro v' w5 hown5 hg5;have HM5:Hid (MvM w (i:Int) 2 [(98,i,1),(99,i,4),(100,i,3)] v' w5):=B0 (MvM.of hown5 hg5);clear hown5 hg5;exact LK);(·obtain rfl:p=3:=hp;obtain rfl:P=[(98,i,0),(99,i,4),(101,i,2)]:=HP.out;go_wp2_with (at_builtin;refine YM rfl _ _ rfl (w.heap.size+1) _ [] rfl (KOwn.nil _ _ _ _ _) _ 3 [(98,i,0),(99,i,4),(101,i,2)] rfl rfl (XZ _ _ _) rfl L0 L0 ?_);intro v' w5 hown5 hg5;have HM5:Hid (MvM w (i:Int) 3 [(98,i,0),(99,i,4),(101,i,2)] v' w5):=B0 (MvM.of hown5 hg5);clear hown5 hg5;exact LK)
   ·obtain rfl:p=4:=hp
    have HP4:Hid (P=[(100,i,3),(101,i,2)]++Cs.one (Cs.pairAt cs i) (i+2,4)):=B0 HP.out
    obtain⟨B,hB⟩:∃B:Bool,B=(Cs.pairAt cs i).isSome:=⟨_,rfl⟩
    have HB:=B0 hB
    clear hB
    go_wp2_with (at_builtin;refine YM rfl _ _ rfl (w.heap.size+1) _ [] rfl (KOwn.nil _ _ _ _ _) _ 2 [(100,i,3),(101,i,2)] rfl rfl (XZ _ _ _) rfl L0 L0 ?_)
    intro v' w5 hown5 hg5
    have HM5:Hid (MvM w (i:Int) 4 [(100,i,3),(101,i,2)] v' w5):=B0 (MvM.of hown5 hg5)
    have hc5:=(HM5.out.2.cell (p:=⟨b,o+i,none⟩) I2).trans ((((Ext.refl w).alloc (.cells #[.int .i64 (i:Int),.int .i64 4] 218)).cell (p:=⟨b,o+i,none⟩) hb).trans hc)
    have hX5:Ext w w5:=((Ext.refl w).alloc _).trans HM5.out.2
    clear hown5 hg5
    go_upto_region 20 with fail
    go_cut [100]from 14 (fun s100 wx=>s100=.bool B∧wx=w5)
    case first=>
     by_cases hi1:i+1<n
     ·have hi1I:(i:Int)+1<(n:Int):=by omega
      obtain⟨y,hyi⟩:∃y,cs[i+1]? =some y:=⟨_,P0 RL⟩
      obtain⟨b2,o2,ha2,hb2,hc2⟩:=HV.out.int_at hX5 hyi
      injection ha2 with ha2
      injection ha2 with ha2 ha3
      subst ha2 ha3
      have HPA:Hid (Cs.pairAt cs i=Cs.pairV x y):=B0 (by unfold Cs.pairAt;rw[G0 RL,HGD.out,A1,hyi];rfl)
      have hnI:((i+1:Nat):Int)=(i:Int)+1:=rfl
      clear hyi
      cases hdx:Cs.dig x with
      |false=>have HC:=B0 (fun w=>NR x w);rw[hdx]at HC;obtain rfl:B=false:=(by rw[HB.out,HPA.out];unfold Cs.pairV;rw[hdx];rfl);clear hdx;go_wp2_with fail;refine(HC.out _).mono ?_;rintro e w6 ⟨rfl,rfl⟩;exact WA
      |true=>have HC:=B0 (fun w=>NR x w);have HC2:=B0 (fun w=>NR y w);rw[hdx]at HC;obtain rfl:B=Cs.dig y:=(by rw[HB.out,HPA.out];unfold Cs.pairV;rw[hdx];cases Cs.dig y<;>rfl);clear hdx;generalize Cs.dig y=dy at*;go_wp2_with fail;refine(HC.out _).mono ?_;rintro e w6 ⟨rfl,rfl⟩;go_wp2_with fail;refine(HC2.out _).mono ?_;rintro e w6 ⟨rfl,rfl⟩;exact WA
     ·have hi1I:¬(i:Int)+1<(n:Int):=C0;obtain rfl:B=false:=(by rw[HB.out];unfold Cs.pairAt;rw[D0 RL];rfl);exact WA
    case rest=>
    obtain⟨rfl,rfl⟩:=hcut
    cases B with
    |false=>
     obtain rfl:P=[(100,i,3),(101,i,2)]:=by
      rw[HP4.out]
      cases hpa:Cs.pairAt cs i with
      |none=>rfl
      |some z=>have:=HB.out;rw[hpa]at this;cases this
     exact LK
    |true=>obtain⟨z,hz⟩:∃z,Cs.pairAt cs i=some z:=Option.isSome_iff_exists.1 HB.out.symm;have hz2:=hz;unfold Cs.pairAt at hz2;split at hz2;(·rename_i hi1;rw[<-HN.out]at hi1;have hi1I:(i:Int)+1<(n:Int):=C0;obtain⟨y,hyi⟩:∃y,cs[i+1]? =some y:=⟨_,P0 RL⟩;obtain⟨b2,o2,ha2,hb2,hc2⟩:=HV.out.int_at hX5 hyi;injection ha2 with ha2;injection ha2 with ha2 ha3;subst ha2 ha3;have hy:=HOK.out y (I1 hyi);have hy0:0<=y:=(by unfold Cs.okC at hy;omega);have hy1:y<=259:=(by unfold Cs.okC at hy;omega);have hnI:((i+1:Nat):Int)=(i:Int)+1:=rfl;rw[HGD.out,A1,hyi]at hz2;obtain rfl:z=10*(x-48)+y-48:=(by unfold Cs.pairV at hz2;split at hz2;(·injection hz2 with hz2;exact hz2.symm);·cases hz2);obtain rfl:P=[(100,i,3),(101,i,2)]++[(10*(x-48)+y-48,i+2,4)]:=(by rw[HP4.out,hz];rfl);clear hyi hz hz2 hy hi1;go_wp2_with (at_builtin;refine YM rfl _ _ rfl (w.heap.size+1) _ _ rfl (HM5.out.1.ext ((Ext.refl _).alloc _)) _ 1 [(10*(x-48)+y-48,i+2,4)] rfl rfl (E2 _ _) rfl L0 (by have:=HM5.out.2.size;simp at this⊢;omega) ?_);intro v6 w6 hown6 hg6;have HM6:Hid (MvM w (i:Int) 4 ([(100,i,3),(101,i,2)]++[(10*(x-48)+y-48,i+2,4)]) v6 w6):=B0 (MvM.more HM5.out hown6 hg6);clear hown6 hg6;go_wp2_with fail;go_meet;case rel=>exact HM6);·cases hz2
  case rest=>
  have HM5:=hcut;have hPl:P.length<=4:=(by rw[HP.out];unfold Cs.pre Cs.one;(repeat' split)<;>simp);clear hcut HP;subst hp;obtain⟨n0,n1,n2⟩:=RK (Ext.blk (E2 w _) HM5.out.2);have HEX:Hid (Ext w wc):=B0 (((Ext.refl w).alloc _).trans HM5.out.2);have hszc:w.heap.size+1<=wc.heap.size:=(by have:=HM5.out.2.size;exact V6);have HC1:=B0 (fun w=>NQ x s s w rfl hs3 hx0 hx1);by_cases hx6:256<=x
  ·have HO:Cs.own x s=Cs.fnOf x s:=by unfold Cs.own;rw[G0 hx6]
   have HC2:=B0 (fun w=>gH x s s w rfl hs3)
   rw[HO]at HMV
   clear HO
   unfold optV at HC1 HC2
   generalize(Cs.valOf x s).getD 0=y1 at*
   generalize(Cs.valOf x s).isSome=b1 at*
   generalize Cs.fnOf x s=ov at*
   cases ov with
   |none=>dsimp only[Option.getD_none,Option.isSome_none]at HC2;go_wp2_with fail;refine(HC1.out _).mono ?_;rintro e w1 ⟨rfl,rfl⟩;go_wp2_with fail;refine(HC2.out _).mono ?_;exact AH
   |some y=>dsimp only[Option.getD_some,Option.isSome_some]at HC2;go_wp2_with fail;refine(HC1.out _).mono ?_;rintro e w1 ⟨rfl,rfl⟩;go_wp2_with fail;refine(HC2.out _).mono ?_;exact QT
  ·have HO:Cs.own x s=Cs.valOf x s:=by unfold Cs.own;rw[D0 hx6]
   rw[HO]at HMV
   clear HO
   unfold optV at HC1
   generalize Cs.valOf x s=ov at*
   cases ov with
   |none=>dsimp only[Option.getD_none,Option.isSome_none]at HC1;go_wp2_with fail;refine(HC1.out _).mono ?_;exact AH
   |some y=>dsimp only[Option.getD_some,Option.isSome_some]at HC1;go_wp2_with fail;refine(HC1.out _).mono ?_;exact QT
end
section
open Go.RowKit Go.Maps Go Go.WideMaps Go.ChangeMaps
def ndV (x:Cs.Nd):Value:=.agg #[.int .i64 (x.1:Int),.int .i64 (x.2:Int)]
theorem cY:∀a b:Cs.Nd,ndV a=ndV b->a=b:=by rintro⟨k,s⟩ ⟨j,t⟩ h;unfold ndV at h;simp only[Value.agg.injEq,Array.mk.injEq,UL,Value.int.injEq,true_and,F5]at h;have h1:=h.1;have h2:=h.2;rw[Int.ofNat.inj h1,Int.ofNat.inj h2]
theorem cZ:laidOutB prog=true:=Y0
theorem dA:KeyLaw prog 218:=deep_law_laid cZ (m:=3) C0 (N3 M0) M0 (by rw[underlying218])
theorem LM:Keyed prog 218:=Keyed.of_law dA
theorem LN {x:Cs.Nd} (h1:x.1<=1000000) (h2:x.2<=1000000):∃l,keyOf prog 218 (ndV x)=some l:=by
 unfold ndV keyOf;simp only[underlying218];have k1:prog.keyType 218=true:=Y0
 have k2:(Value.agg #[.int .i64 (x.1:Int),.int .i64 (x.2:Int)]).formed prog 218=true:=Y0
 obtain⟨d,hd⟩:∃d,prog.types.size+1=d+1+1:=⟨prog.types.size-1,by kernel_rfl⟩;rw[k1,k2,hd];simp only[RN,R4];have hc:prog.cellsOf 218=2:=Y0
 have hi:prog.cellsOf 3=1:=Y0
 have u1:prog.underlying 3=some (.int .i64):=Y0
 have k4:∀y:Nat,y<=1000000->prog.keyLits (d+1) 3 [.int .i64 (y:Int)]=some [.int .i64 (y:Int)]:=fun y hy=>by have hk:(Lit.int .i64 (y:Int)).wf=true:=AK;unfold Program.keyLits;rw[u1];simp[hk]
 have k5:=k4 x.1 h1;have k6:=k4 x.2 h2;have key:∃ls,prog.keyLits (d+1+1) 218 (Value.agg #[.int .i64 (x.1:Int),.int .i64 (x.2:Int)]).cells.toList=some ls:=by generalize hd2:d+1=d2 at*;unfold Program.keyLits;simp only[underlying218,Value.cells];rw[G0 ⟨by rw[hc];rfl,by decide+kernel⟩];simp only[H9,List.mapM_nil];simp[hi,k5,k6]
 obtain⟨ls,hls⟩:=key;rw[hls];exact⟨_,rfl⟩
theorem AM (w:World):(zeroValue 3).run prog w=.ok (.int .i64 0) w:=Y0
def cst (T:Cs.Tab) (x:Cs.Nd):Option Int:=(T x).map fun(r:Nat)=>(r:Int)
def TabM (w0 w:World) (mb:Nat) (T:Cs.Tab) (K:Nat):Prop:=
 (∃c,c<=K∧MapV prog 218 ndV w mb c (cst T))∧(∀x r,T x=some r->r<=K)∧GB (some mb) w0 w
section
variable {w0 w w':World} {mb K:Nat} {T:Cs.Tab}
theorem TabM.made (w:World):TabM w (w.alloc (.map #[] 0)) w.heap.size (fun _=>none) 0:=
 ⟨⟨0,I0 _,MapV.made w⟩,(fun x r h=>by cases h),GB.ext ((Ext.refl w).alloc _)⟩
theorem TabM.ext (h:TabM w0 w mb T K) (hx:Ext w w'):TabM w0 w' mb T K:=by obtain⟨⟨c,hc,hm⟩,hb,hg⟩:=h;exact⟨⟨c,hc,hm.kept hx.asGrown L0⟩,hb,hg.trans (GB.ext hx)⟩
theorem TabM.up {K':Nat} (h:TabM w0 w mb T K) (hk:K<=K'):TabM w0 w mb T K':=by obtain⟨⟨c,hc,hm⟩,hb,hg⟩:=h;exact⟨⟨c,by omega,hm⟩,fun x r hr=>by have:=hb x r hr;omega,hg⟩
theorem TabM.look (h:TabM w0 w mb T K) (x:Cs.Nd) (h1:x.1<=1000000) (h2:x.2<=1000000):
 (Instr.lookup 215 (.map (some mb)) (.agg #[.int .i64 (x.1:Int),.int .i64 (x.2:Int)]) true).run prog w=.ok (.tuple #[.int .i64 (((T x).getD 0:Nat):Int),.bool (T x).isSome]) w:=by
 obtain⟨⟨c,hc,hm⟩,hb,hg⟩:=h
 obtain⟨l,hl⟩:=LN h1 h2
 have:=hm.get (T:=215) LM underlying215 (AM w) hl
 have e1:(cst T x).getD 0=(((T x).getD 0:Nat):Int):=by unfold cst;cases T x<;>rfl
 have e2:(cst T x).isSome=(T x).isSome:=by unfold cst;cases T x<;>rfl
 rw[e1,e2]at this
 exact this
theorem TabM.look1 (h:TabM w0 w mb T K) (x:Cs.Nd) (h1:x.1<=1000000) (h2:x.2<=1000000):
 (Instr.lookup 215 (.map (some mb)) (.agg #[.int .i64 (x.1:Int),.int .i64 (x.2:Int)]) false).run prog w=.ok (.int .i64 (((T x).getD 0:Nat):Int)) w:=by
 obtain⟨⟨c,hc,hm⟩,hb,hg⟩:=h
 obtain⟨l,hl⟩:=LN h1 h2
 have:=hm.get1 (T:=215) LM underlying215 (AM w) hl
 have e1:(cst T x).getD 0=(((T x).getD 0:Nat):Int):=by unfold cst;cases T x<;>rfl
 rw[e1]at this
 exact this
theorem TabM.put (h:TabM w0 w mb T K) (x:Cs.Nd) (h1:x.1<=1000000) (h2:x.2<=1000000) (r:Nat) (hr:r<=K+1) (hK:K<=1000000):
 ∃w',(Instr.mapUpdate 215 (.map (some mb)) (.agg #[.int .i64 (x.1:Int),.int .i64 (x.2:Int)]) (.int .i64 (r:Int))).run prog w=.ok () w'∧TabM w0 w' mb (fun y=>if y=x then some r else T y) (K+1)∧w.grownBy w' (some mb):=by
 obtain⟨⟨c,hc,hm⟩,hb,hg⟩:=h
 obtain⟨l,hl⟩:=LN h1 h2
 obtain⟨w',hrun,hm',hg'⟩:=hm.put (T:=215) LM underlying215 hl (r:Int) G5 cY
 refine⟨w',hrun,⟨⟨c+1,by omega,?_⟩,fun y z hy=> ?_,hg.trans hg'⟩,hg'⟩
 ·have e:(fun y=>if y=x then some (r:Int)else cst T y)=cst (fun y=>if y=x then some r else T y):=(by funext y;unfold cst;by_cases hy:y=x;(·simp only[G0 hy];rfl);·simp only[D0 hy]);rw[<-e];exact hm'
 ·dsimp only at hy;split at hy;(·injection hy with hy;omega);·have:=hb y z hy;omega
end
end
section
open Go.RowKit
def shC (q:List Hp.Sh):List Value:=q.flatMap fun x=>[.int .i64 x.ix,.int .i64 x.md,.int .i64 x.ct]
theorem LP:∀(q:List Hp.Sh) (i:Nat) (x:Hp.Sh),q[i]? =some x->(shC q)[i*3]? =some (.int .i64 x.ix)∧(shC q)[i*3+1]? =some (.int .i64 x.md)∧(shC q)[i*3+2]? =some (.int .i64 x.ct):=by
 intro q
 induction q with
 |nil=>intro i x h;simp at h
 |cons y q ih=>
  intro i x h
  cases i with
  |zero=>simp only[E3,A2]at h;subst h;exact⟨rfl,rfl,rfl⟩
  |succ i=>rw[R3]at h;have:=ih i x h;have e1:(i+1)*3=i*3+1+1+1:=C0;rw[e1];simp only[shC,P5,P2,E4,R3]at this⊢;exact R2
theorem LQ:∀(q:List Hp.Sh) (i:Nat) (x:Hp.Sh),shC (q.set i x)=(((shC q).set (i*3) (.int .i64 x.ix)).set (i*3+1) (.int .i64 x.md)).set (i*3+2) (.int .i64 x.ct):=by
 intro q
 induction q with
 |nil=>intro i x;rfl
 |cons y q ih=>
  intro i x
  cases i with
  |zero=>rfl
  |succ i=>have:=ih i x;have e1:(i+1)*3=i*3+1+1+1:=C0;rw[e1,XA];simp only[shC,P5,P2,E4,XA]at this⊢;rw[this]
theorem RP {α:Type} {l:List α} {i:Nat} {x:α} (h:l[i]? =some x):l.set i x=l:=by
 apply UM;intro k;by_cases e:i=k;·subst e;rw[P7 (J1.1 h).1,h]
 ·rw[I9 e]
def QAt (w:World) (g:Nat) (q:List Hp.Sh):Prop:=w.heap[g]? =some (.cells (shC q).toArray 250 (0,0))
theorem QAt.at_ {w:World} {g:Nat} {q:List Hp.Sh} (h:QAt w g q) {i:Nat} {x:Hp.Sh} (hi:q[i]? =some x):
 w.cell? ⟨g,i*3,none⟩=some (.int .i64 x.ix)∧w.cell? ⟨g,i*3+1,none⟩=some (.int .i64 x.md)∧w.cell? ⟨g,i*3+2,none⟩=some (.int .i64 x.ct):=by
 obtain⟨h1,h2,h3⟩:=LP q i x hi
 exact⟨Zk h D9,Zk h F4,Zk h (by simpa using h3)⟩
theorem QAt.frz {w:World} {g:Nat} {q:List Hp.Sh} (h:QAt w g q) (i:Nat):w.frozen? ⟨g,i,none⟩=false:=ZL h
theorem QAt.lt {w:World} {g:Nat} {q:List Hp.Sh} (h:QAt w g q):g<w.heap.size:=(F3.1 h).1
theorem QAt.set {w:World} {g:Nat} {q:List Hp.Sh} (h:QAt w g q) (i:Nat) (x:Hp.Sh):QAt (((w.setCell ⟨g,i*3,none⟩ (.int .i64 x.ix)).setCell ⟨g,i*3+1,none⟩ (.int .i64 x.md)).setCell ⟨g,i*3+2,none⟩ (.int .i64 x.ct)) g (q.set i x):=by unfold QAt;rw[LQ];have:=Zi (i:=i*3+2) (u:=.int .i64 x.ct) (Zi (i:=i*3+1) (u:=.int .i64 x.md) (Zi (i:=i*3) (u:=.int .i64 x.ix) h));rw[this];simp
theorem QAt.setMd {w:World} {g:Nat} {q:List Hp.Sh} (h:QAt w g q) {i:Nat} {x:Hp.Sh} (hi:q[i]? =some x) (m:Int):QAt (w.setCell ⟨g,i*3+1,none⟩ (.int .i64 m)) g (q.set i ⟨x.ix,m,x.ct⟩):=by unfold QAt;obtain⟨h1,_,h3⟩:=LP q i x hi;rw[LQ,Zi (i:=i*3+1) (u:=.int .i64 m) h];dsimp only;rw[RP h1,List.set_comm _ _ C0,RP h3];simp
theorem QAt.setCt {w:World} {g:Nat} {q:List Hp.Sh} (h:QAt w g q) {i:Nat} {x:Hp.Sh} (hi:q[i]? =some x) (m:Int):QAt (w.setCell ⟨g,i*3+2,none⟩ (.int .i64 m)) g (q.set i ⟨x.ix,x.md,m⟩):=by unfold QAt;obtain⟨h1,h2,_⟩:=LP q i x hi;rw[LQ,Zi (i:=i*3+2) (u:=.int .i64 m) h];dsimp only;rw[RP h1,RP h2];simp
theorem GB.setRow {g:Nat} {a w:World} (h:GB (some g) a w) (i:Nat) (u:Value):GB (some g) a (w.setCell ⟨g,i,none⟩ u):=h.trans (ZC w g i u)
theorem QAt.drew {w:World} {g:Nat} {q:List Hp.Sh} (h:QAt w g q):QAt w.drew g q:=h
theorem QAt.on {w w':World} {g:Nat} {q:List Hp.Sh} (h:QAt w g q) (hx:Ext w w'):QAt w' g q:=by unfold QAt;rw[hx.block g h.lt];exact h
theorem AO (a:Option Addr) (n c:Nat) (w:World):Calls prog 371 #[.slice a n c] w fun e w'=>e=.returned (.int .i64 (n:Int))∧Ext w w':=by go_enter func371,ntmps371;go_wp2;go_ret;exact U5
theorem RQ (g n i j:Nat) (q:List Hp.Sh) (x y:Hp.Sh) (w:World) (hq:QAt w g q) (hn:q.length=n) (hi:q[i]? =some x) (hj:q[j]? =some y) (hs:n<=1000000):
 Calls prog 372 #[.slice (some ⟨g,0,none⟩) n n,.int .i64 (i:Int),.int .i64 (j:Int)] w fun e w'=>e=.returned (.bool (Hp.lessS x y))∧Ext w w':=by
 obtain⟨c0,c1,c2⟩:=hq.at_ hi
 obtain⟨d0,d1,d2⟩:=hq.at_ hj
 have hil:=(J1.1 hi).1
 have hjl:=(J1.1 hj).1
 rw[hn]at hil hjl
 have hiI:(i:Int)<(n:Int):=by omega
 have hjI:(j:Int)<(n:Int):=by omega
 unfold Hp.lessS
 obtain⟨x0,x1,x2⟩:=x
 obtain⟨y0,y1,y2⟩:=y
 dsimp only at c0 c1 c2 d0 d1 d2⊢
 clear hq hn hi hj c1 d1
 by_cases hc:x2=y2
 ·rw[G0 hc];have z1:(x2 !=y2)=false:=(by simp[hc]);have z2:decide (x2=y2)=true:=F1 hc;exact AP
 ·rw[D0 hc];have z1:(x2 !=y2)=true:=(by simp[hc]);have z2:decide (x2=y2)=false:=D1 hc;exact AP
theorem LR (g n i j:Nat) (q:List Hp.Sh) (x y:Hp.Sh) (w:World) (hq:QAt w g q) (hn:q.length=n) (hi:q[i]? =some x) (hj:q[j]? =some y) (hij:i≠j) (hs:n<=1000000):
 Calls prog 373 #[.slice (some ⟨g,0,none⟩) n n,.int .i64 (i:Int),.int .i64 (j:Int)] w fun e w'=>e=.returned (.tuple #[])∧QAt w' g (Hp.swap q i j)∧GB (some g) w w':=by
 obtain⟨c0,c1,c2⟩:=hq.at_ hi
 obtain⟨d0,d1,d2⟩:=hq.at_ hj
 have hil:=(J1.1 hi).1
 have hjl:=(J1.1 hj).1
 rw[hn]at hil hjl
 have hiI:(i:Int)<(n:Int):=by omega
 have hjI:(j:Int)<(n:Int):=by omega
 have f0:=hq.frz (i*3)
 have f1:=hq.frz (i*3+1)
 have f2:=hq.frz (i*3+2)
 have g0:=hq.frz (j*3)
 have g1:=hq.frz (j*3+1)
 have g2:=hq.frz (j*3+2)
 go_enter func373,ntmps373
 go_region
 go_end0
 have h1:=(hq.set i y).set j x
 have e:(q.set i y).set j x=Hp.swap q i j:=by unfold Hp.swap;rw[hi,hj]
 rw[e]at h1
 refine⟨rfl,?_,?_⟩
 ·exact h1.drew
 ·refine GB.drew ?_;(iterate 6 refine GB.setRow ?_ _ _);exact GB.refl w
end
end Go.Proofs.YtbngggoccndefaaGreatDoor
