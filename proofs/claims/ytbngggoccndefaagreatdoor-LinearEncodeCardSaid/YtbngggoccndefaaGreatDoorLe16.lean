/-
  Laid.
-/
import Derived.Test.YtbngggoccndefaaGreatDoorLe15
set_option maxHeartbeats 8000000
set_option maxRecDepth 100000
set_option linter.all false
namespace Go.Proofs.Enc
open Go.Proofs.Tryz
section
open Go.RowKit
def XN(c p:Int)(s:Nat)(w:World)(hp:p=(s:Int))(hs:s=0\/s=1)(h0:0<=c)(h1:c<=259):
 Calls prog 204 #[.int .i64 c,.int .i64 p] w λe w'=>e=.returned (.int .i64 (Cs.dat c s))/\w=w':=by
 have HF:=B0 (Cs.dat.eq_1 c s);generalize Cs.dat c s=res at*;by_cases a0:c=256
 .subst a0;exact qK
 rw[D0 a0]at HF;have z0:(c==256)=false:=O0.2 a0;by_cases a1:c=257
 .subst a1;exact qK
 rw[D0 a1]at HF;have z1:(c==257)=false:=O0.2 a1;by_cases a2:c=258
 .subst a2;exact qK
 rw[D0 a2]at HF;have z2:(c==258)=false:=O0.2 a2;by_cases a3:c=259
 .subst a3;rw[G0 rfl]at HF;have hp0:0<=p:=C0;have Jd:p<=1:=C0;have HP:=B0 hp;clear hp hs a0 a1 a2;go_enter func204,ntmps204;go_wp2;go_ret;exact⟨Zo (by rw[HF.out,HP.out]),rfl⟩
 rw[D0 a3]at HF;have z3:(c==259)=false:=O0.2 a3;clear a0 a1 a2 a3;by_cases b0:32<=c
 .by_cases b1:c<=95;(·rw[G0 ⟨b0,b1⟩]at HF;clear hp hs;exact Q5);rw[D0 (λh=>b1 h.2),D0 C0]at HF;have b2:¬c<32:=C0;have b3:96<=c:=C0;by_cases b4:c<=127;(·rcases hs with rfl|rfl;(·obtain rfl:p=0:=hp;rw[D0 C0]at HF;exact Q5);·obtain rfl:p=1:=hp;rw[G0 ⟨b3,b4,rfl⟩]at HF;exact Q5);·rw[D0 C0]at HF;rcases hs with rfl|rfl;(·obtain rfl:p=0:=hp;exact Q5);·obtain rfl:p=1:=hp;exact Q5
 .have b2:c<32:=C0;have b3:¬96<=c:=C0;rw[D0 (λh=>b0 h.1)]at HF;rcases hs with rfl|rfl;(·obtain rfl:p=0:=hp;rw[G0 ⟨h0,b2,rfl⟩]at HF;exact Q5);·obtain rfl:p=1:=hp;rw[D0 C0,D0 C0]at HF;exact Q5
def qL(c:Int)(w:World):
 Calls prog 272 #[.int .i64 c] w λe w'=>e=.returned (.bool (Cs.dig c))/\w=w':=by
 by_cases a:48<=c
 .by_cases b:c<=57;(·have HF:Hid (Cs.dig c=true):=B0 vU;exact qM);·have HF:Hid (Cs.dig c=false):=B0 vV;exact qM
 .have HF:Hid (Cs.dig c=false):=B0 (by unfold Cs.dig;rw[G1 a];rfl);exact qM
def ZjF{c:Int}(h:Cs.Ab c):0<=Cs.dat c 0\/0<=Cs.dat c 1:=by unfold Cs.Ab at h;unfold Cs.dat;exact R5
def Zkq(c:Int)(w:World)(h:Cs.Ab c):
 Calls prog 201 #[.int .i64 c] w λe w'=>e=.returned (.bool true)/\w=w':=by
 have h0:0<=c:=by unfold Cs.Ab at h;omega
 have h1:c<=259:=by unfold Cs.Ab at h;omega
 have HA:=B0 (λw=>XN c 0 0 w rfl (.inl rfl) h0 h1);have HB:=B0 (λw=>XN c 1 1 w rfl (.inr rfl) h0 h1);have hk:=ZjF h;generalize Cs.dat c 0=d0 at*;generalize Cs.dat c 1=d1 at*;clear h;by_cases a:0<=d0
 .clear hk;go_enter func201,ntmps201;go_wp2_with fail;refine(HA.out _).mono ?_;exact qN
 .have hb:0<=d1:=C0;clear hk;go_enter func201,ntmps201;go_wp2_with fail;refine(HA.out _).mono ?_;rintro e w1 ⟨rfl,rfl⟩;go_wp2_with fail;refine(HB.out _).mono ?_;exact qN
def Cs.usedN(cs:List Int)(i s n2 n3 n4 p:Nat):Nat:=if s=0 then Cs.Br (cs.getD i 0) 2 n2 else if s=1 then Cs.Br (cs.getD i 0) 3 n3 else Cs.Fy (cs.getD i 0) (Cs.IM cs i).isSome n4 p
def Cs.aEi{c:Int}(h:Cs.Ab c){s:Nat}(hs:s<2)(n:Nat):Cs.Br c (s+2) n=if 0<=Cs.dat c s then n+1 else n+2:=by
 unfold Cs.Br;rw[(Cs.dat_is h hs).1];by_cases h0:0<=Cs.dat c s;·rw[G0 h0,G0 h0];rfl
 .rw[D0 h0,D0 h0];rfl
def ZlH(v:Value)(cs:List Int)(i s:Nat)(w:World)(hv:Sl w v (cs.map encI))(hl:cs.length<=4096)(x7:∀c∈cs,Cs.Ab c)(hi:i<cs.length)(hs:s<=2)(x0 x1 x2 y0 y1 y2:Int)(n2 n3 n4 p2 p3 p4:Nat)(h2:n2<=1000000)(h3:n3<=1000000)(h4:n4<=1000000)(h5:p4<=1000000):
 Calls prog 248 #[v,.int .i64 (i:Int),.int .i64 (s:Int),.agg #[.int .i64 x0,.int .i64 x1,.int .i64 x2,.int .i64 (n2:Int),.int .i64 (n3:Int),.int .i64 (n4:Int)],.agg #[.int .i64 y0,.int .i64 y1,.int .i64 y2,.int .i64 (p2:Int),.int .i64 (p3:Int),.int .i64 (p4:Int)]] w λe w'=>e=.returned (.int .i64 (Cs.usedN cs i s n2 n3 n4 p4:Nat))/\Ext w w':=by
 obtain⟨a,c,rfl⟩:=hv.form;rw[M0]at hv⊢;obtain⟨n,hn⟩:∃n,n=cs.length:=⟨_,rfl⟩;rw[<-hn]at hv hl hi⊢;have HN:=B0 hn;obtain⟨x,IY⟩:∃x,cs[i]? =some x:=⟨_,P0 (by rw[<-hn];exact hi)⟩;have IG:cs.getD i 0=x:=TE;have hx:=x7 x (L1 IY);obtain⟨b,o,ha,hb,hc⟩:=hv.Af (Ext.refl w) IY;subst ha;have Ps:0<=x:=U5;have Pt:x<=259:=U5;have Kl:(i:Int)<(n:Int):=by omega
 have HV:=B0 hv;have Ag:=B0 x7;have Iq:=B0 IG;have HU:=B0 (Cs.usedN.eq_1 cs i s n2 n3 n4 p4);rw[IG]at HU;generalize Cs.usedN cs i s n2 n3 n4 p4=res at*;clear hv x7 IG IY hn;have Pr:s=0\/s=1\/s=2:=by omega
 rcases Pr with rfl|rfl|rfl
 .rw[G0 rfl,Cs.aEi hx C0]at HU;have HD:=B0 (λw=>XN x 0 0 w rfl (.inl rfl) Ps Pt);generalize Cs.dat x 0=d at*;exact iD
 .rw[D0 I0,G0 rfl,Cs.aEi hx C0]at HU;have HD:=B0 (λw=>XN x 1 1 w rfl (.inr rfl) Ps Pt);generalize Cs.dat x 1=d at*;exact iD
 .rw[D0 I0,D0 I0]at HU
  unfold Cs.Fy at HU
  by_cases h6:x=256
  .rw[G0 h6]at HU;subst h6;go_enter func248,ntmps248;exact iE
  have z6:(x==256)=false:=O0.2 h6
  rw[D0 h6]at HU
  obtain⟨B,hB⟩:∃B:Bool,B=(Cs.IM cs i).isSome:=⟨_,rfl⟩
  rw[<-hB]at HU
  have HB:=B0 hB
  clear hB h6
  go_enter func248,ntmps248
  go_upto_region 4 with fail
  go_cut [41]from 11 (λs41 wx=>s41=.bool B/\wx=(w.alloc (.cells #[.int .i64 x0,.int .i64 x1,.int .i64 x2,.int .i64 (n2:Int),.int .i64 (n3:Int),.int .i64 (n4:Int)] 233)).alloc (.cells #[.int .i64 y0,.int .i64 y1,.int .i64 y2,.int .i64 (p2:Int),.int .i64 (p3:Int),.int .i64 (p4:Int)] 233))
  case first=>
   by_cases Gh:i+1<n
   .have aAT:(i:Int)+1<(n:Int):=by omega
    obtain⟨y,Lj⟩:∃y,cs[i+1]? =some y:=⟨_,P0 RY⟩
    obtain⟨b2,o2,IB,n7,IS⟩:=HV.out.Af (Ext.refl w) Lj
    injection IB with IB
    injection IB with IB ha3
    subst IB ha3
    have Ts:Hid (Cs.IM cs i=Cs.No x y):=B0 gU
    have We:((i+1:Nat):Int)=(i:Int)+1:=rfl
    clear Lj
    cases hdx:Cs.dig x with
    |false=>have HC:=B0 (λw=>qL x w);exact gV
    |true=>have HC:=B0 (λw=>qL x w);have IE:=B0 (λw=>qL y w);exact gW
   .exact gY
  case rest=>
  obtain⟨rfl,rfl⟩:=hcut
  cases B with
  |false=>rw[D0 I0]at HU;go_wp2;go_ret;exact⟨Zo (by rw[HU.out];rfl),((Ext.refl w).alloc _).alloc _⟩
  |true=>rw[G0 rfl]at HU;exact iE
def iZ(z:Value)(n:Nat):(Builtin.zeroCells #[z] n).toList=List.replicate n z:=by
 apply V9;·simp[Builtin.zeroCells]
 .intro i h1 h2;simp[Builtin.zeroCells,Nat.mod_one]
def Ze1{w:World}(T tn ty t:TypeId)(kn:IntKind)(z:Value)(bytes:Nat)
 (hT:prog.underlying T=some (.slice t))(htn:prog.underlying tn=some (.int kn))(hi:(prog.info? t).map (λi=>(i.zero,i.size,i.bytes))=some (some z,1,bytes))(hz:z.cells= #[z])(aGU:z.oneCell'=true)(Iz:bytes<=16)
 (B:Nat)(v:Value)(xs:List Value)(b8:Own t w B v xs)(n9:0<xs.length)(n:Nat)(hn:xs.length+n<=1000000000)(hB:B<=w.heap.size):
 ∃v' w',(Builtin.append_ #[T,tn] ty #[v,.int .i64 (n:Int)]).run prog w=.ok v' w'/\Own t w' B v' (xs++List.replicate n z)/\w.grownBy w' v.ownBlock:=by
 obtain⟨i0,hi,An,p8,x9⟩:=C5 hi;have hwn:IntKind.i64.wrap (n:Int)=n:=M6;have aDz:¬((n:Int)<0):=by omega
 have o8:(xs.length+n)*bytes<=16000000000:=F3 (O9 hn Iz) I0;have n7:n*bytes<=16000000000:=F3 (O9 (show n<=1000000000 by omega) Iz) I0;have aDb:¬(281474976710656<(n:Int)*(i0.bytes:Int)):=by rw[x9,<-Int.natCast_mul];omega
 have hlen:(xs++List.replicate n z).length=xs.length+n:=by rw[S0,M2]
 rcases b8.2 with⟨_,h0⟩|⟨g,cap,cur,hv,Ki,hb,Am,IS,hc3,hc4⟩
 .omega
 .subst hv;have Gr:IntKind.i64.wrap 0=0:=rfl;by_cases Mn:n=0;(·subst Mn;refine⟨.slice (some ⟨g,0,none⟩) xs.length cap,w,?_,by rw[XH,A3];exact b8,⟨rfl,rfl,rfl,J0 _,λ_ _ _=>rfl⟩⟩;simp[Builtin.append_,X6 hT,X6 htn,sizeOf,typeInfo,hi,asInt,asIntOf,Gr,Am,storeCells]);·by_cases aC8:xs.length+n<=cap;(·have p9:=run_storeCells_at prog g (xs.length*i0.size) t (List.replicate n z) 0 cur w hb (by rw[M2,p8,G6,hc3];omega) (λu hu=>by rw[List.eq_of_mem_replicate hu];exact aGU);simp only[Nat.add_zero,p8,G6,M2]at p9;refine⟨.slice (some ⟨g,0,none⟩) (xs.length+n) cap,w.setRow g (cur.toList.take xs.length++List.replicate n z++cur.toList.drop (xs.length+n)).toArray,?_,?_,⟨rfl,rfl,rfl,?_,λk _ hk=>setRow_other w g k (cur.toList.take xs.length++List.replicate n z++cur.toList.drop (xs.length+n)).toArray (λe=>hk (by simp[Value.ownBlock,e]))⟩⟩;(·simp[Builtin.append_,X6 hT,X6 htn,sizeOf,typeInfo,zeroValue,hi,An,p8,hz,asInt,asIntOf,hwn,aDz,aDb,aC8,Mn,Addr.add_lit,iZ,p9]);(·refine⟨by rw[hlen];simp,.inr ⟨g,cap,_,by rw[hlen],Ki,setRow_heap w g cur _ t _ hb,by rw[hlen];exact aC8,IS,?_,?_⟩⟩;(·simp only[LJ,S0,J1,X1,WG,M2];omega);·have e:cur.toList.take xs.length=xs:=(by rw[<-G6 xs.length];exact hc4);rw[e,G6];exact VF);·simp);·have holds:∀j u,xs[j]? =some u->w.cell? ((⟨g,0,none⟩:Addr).add j)=some u:=b8.cells (g:=g) rfl;have hf:=run_firstCells_some (P:=prog) w.drew i0.size xs.length ⟨g,0,none⟩ xs.length cap xs (by rw[p8];simp) (by simpa using holds);rw[p8]at hf;have aFq:¬(281474976710656<Builtin.nextslicecap (xs.length+n) cap*i0.bytes):=(by have:=growslice_fits (need:=xs.length+n) (old:=cap) (bytes:=bytes) C0 C0;rw[x9];omega);have hge:=grownCap_ge w (xs.length+n) cap t;have aF9:¬(9223372036854775807<((xs.length:Int)+(n:Int))):=C0;refine⟨.slice (some ⟨w.heap.size,0,none⟩) (xs.length+n) (grownCap w (xs.length+n) cap t),w.drew.alloc (.cells (xs.toArray++Builtin.zeroCells z.cells n++Builtin.zeroCells z.cells (grownCap w (xs.length+n) cap t-(xs.length+n))) t),?_,?_,⟨rfl,rfl,rfl,by simp,λk hk _=>heap_alloc_old w.drew _ hk⟩⟩;(·simp[Builtin.append_,X6 hT,X6 htn,sizeOf,typeInfo,zeroValue,hi,An,p8,asInt,asIntOf,hwn,aDz,aDb,aC8,Mn,aF9,aFq,Question.forced,hf,newRow,grownCap]);·refine⟨by rw[hlen];simp,.inr ⟨w.heap.size,_,_,by rw[hlen],hB,X2 w.drew _,by rw[hlen];exact hge,grownCap_le_maxLen w _ cap t O3,?_,?_⟩⟩;(·rw[hz];simp[Builtin.zeroCells];omega);·rw[hz,G6,hlen,<-hlen];simp only[B4,iZ];exact VF
def Zh(P:Program)(K:Value->World->Prop):Result Next->Prop
 | .ok (.value v) w'=>K v w'
 | .ok .skip w'=>K undef w'
 | .ok (.enter f args) w'=>Calls P f args w' λe y8=>∃v,e=.returned v/\K v y8
 |_=>False
def L8(P:Program)(o:Oper)(a:Act)(w:World)(K:Value->World->Prop):Prop:=Zh P K ((execOp a.eval o).run P w)
def xM{P:Program}{o:Oper}{a:Act}{w:World}{K:Value->World->Prop}{K':Act->World->Prop}{Q:Exit->Act->World->Prop}
 (h:L8 P o a w K)(hk:∀v w',K v w'->K' (a.put o.dst v) w'):o.wp P a w K' Q:=by
 unfold L8 at h;unfold Oper.wp;generalize(execOp a.eval o).run P w=r at*;cases r with
 |ok n w'=>cases n<;>simp only[Zh]at h<;>simp only[Oper.upon];(case value u=>exact hk _ _ h);(case skip=>exact hk _ _ h);case enter f args=>exact h.mono λe y8 ⟨v,he,hv⟩=>by subst he;exact hk _ _ hv
 |halt x w'=>simp only[Zh]at h
def Zs(V:Nat->Value)(ds:List Nat)(a:Act):Act:=ds.foldl (λa d=>a.put (some d) (V d)) a
def ZlD(a:Act)(d:Nat):a.put (some d) (a.tmps.getD d undef)=a:=by
 cases a with
 |mk t df=>unfold Act.put;simp only;congr 1;apply Array.ext;(·simp);·intro i h1 h2;rw[Array.getElem_setIfInBounds];split;(·rename_i he;subst he;simp at h1;simp[h1]);·rfl
def Znt(a:Act)(d:Nat)(u v:Value):(a.put (some d) u).put (some d) v=a.put (some d) v:=by unfold Act.put;simp[Array.setIfInBounds_setIfInBounds]
def ZiE(ds:List Nat):∀a:Act,Zs (λd=>a.tmps.getD d undef) ds a=a:=by
 intro a;have:∀(ds:List Nat)(b:Act),b=a->ds.foldl (λb d=>b.put (some d) (a.tmps.getD d undef)) b=a:=by
  intro ds
  induction ds with
  |nil=>intro b hb;exact hb
  |cons d ds ih=>intro b hb;rw[N3];apply ih;subst hb;exact ZlD _ d
 exact this ds a rfl
def ZiD(V:Nat->Value)(d:Nat)(v:Value):∀(ds:List Nat)(a:Act),d∉ds->(Zs V ds a).put (some d) v=Zs (λx=>if x=d then v else V x) ds (a.put (some d) v):=by
 intro ds
 induction ds with
 |nil=>intro a _;rfl
 |cons c ds ih=>intro a hd;simp only[E2,not_or]at hd;show(Zs V ds (a.put (some c) (V c))).put (some d) v=Zs _ ds ((a.put (some d) v).put (some c) (if c=d then v else V c));rw[ih _ hd.2,D0 (λh=>hd.1 h.symm),Act.put_comm a (x:=some c) (y:=some d) (V c) v (λx hx=>by injection hx with hx;subst hx;intro h;injection h with h;exact hd.1 h)]
def ZjN(V:Nat->Value)(d:Nat)(v:Value):∀(ds:List Nat)(a:Act),ds.Nodup->d∈ds->(Zs V ds a).put (some d) v=Zs (λx=>if x=d then v else V x) ds a:=by
 intro ds
 induction ds with
 |nil=>intro a _ h;cases h
 |cons c ds ih=>intro a hn hd;rw[MH]at hn;rcases E2.1 hd with rfl|hd;(·show(Zs V ds (a.put (some d) (V d))).put (some d) v=Zs _ ds (a.put (some d) (if d=d then v else V d));rw[ZiD V d v ds _ hn.1,Znt,G0 rfl]);·have k7:c≠d:=λh=>hn.1 (h▸hd);show(Zs V ds (a.put (some c) (V c))).put (some d) v=Zs _ ds (a.put (some c) (if c=d then v else V c));rw[ih _ hn.2 hd,D0 k7]
def SK(ops:Array Oper)(k i:Nat):Bool:=match ops[k]? with
 |some o=>o.after.any λe=>Region.binds .any e&&e.on==i
 |none=>false
def YG(n m:Nat):Array Bool:=(List.replicate m true++List.replicate (n-m) false).toArray
def cnt(n:Nat)(l:Array Bool):Nat:=(List.range n).countP λi=> !l.getD i true
def VR(ops:Array Oper)(m:Nat)(ds:List Nat)(deps:List (List Nat)):Bool:=
 decide (m<ops.size)&&decide (ds.length=m)&&decide ds.Nodup&&
 ((
  List.range m).all λi=>match ops[i]? with
  |some o=>o.guard.isNone&&o.dst==some (ds.getD i 0)&&(deps.getD i []).all λj=>decide (j<i)&&SK ops i j
  |none=>false)&&
 ((
  List.range ops.size).all λi=>match ops[i]? with
  |some o=>o.after.all λe=> !Region.binds .any e || decide (e.on<i)
  |none=>false)&&
 ((List.range m).all λi=>(List.range (m+1)).any λk=>decide (i<k)&&SK ops k i)&&
 ((List.range ops.size).all λi=>decide (i<=m) || (List.range ops.size).any λk=>decide (m<=k)&&SK ops i k)&&
 decide (cnt ops.size (YG ops.size m)=ops.size-m)&&decide (cnt ops.size (Array.replicate ops.size false)=ops.size)
def Zi2{l:List Nat}(hn:l.Nodup){p q:Nat->Bool}{i:Nat}(hi:i∈l)(hp:p i=true)(hq:q i=false)(h:∀j,j≠i->q j=p j):l.countP q+1=l.countP p:=by
 induction l with
 |nil=>cases hi
 |cons c l ih=>rw[MH]at hn;rcases E2.1 hi with rfl|hi;(·rw[KV,KV,hp,hq];have:l.countP q=l.countP p:=List.countP_congr (λx hx=>by rw[h x (λe=>hn.1 (e▸hx))]);simp[this]);·have hc:c≠i:=λe=>hn.1 (e▸hi);have:=ih hn.2 hi;rw[KV,KV,h c hc];omega
def lG{n:Nat}{l:Array Bool}{i:Nat}(hs:l.size=n)(h:l.getD i true=false):cnt n (l.setIfInBounds i true)+1=cnt n l:=by
 have hi:i<n:=by rcases H5 i n with h'|h';(·exact h');·rw[<-hs]at h';simp[TC h']at h
 refine Zi2 List.nodup_range (P5.2 hi) (by rw[h];rfl) ?_ ?_;·simp[hs,hi]
 .intro j hj;rw[KW true (Ne.symm hj)]
def KX{ops:Array Oper}{k i:Nat}{o:Oper}(ho:ops[k]? =some o)(h:SK ops k i=true):∃e∈o.after,Region.binds .any e=true/\e.on=i:=by unfold SK at h;rw[ho]at h;simp only[Array.any_eq_true',P1,I1]at h;obtain⟨e,he,hb,h⟩:=h;exact⟨e,he,hb,h⟩
section
variable {P:Program} {ops:Array Oper} {Q:Exit->Act->World->Prop} {W:World} {a:Act} {m:Nat} {ds:List Nat} {deps:List (List Nat)} {R:Nat->Value->World->Prop}
structure ZnF (ops:Array Oper) (W:World) (a:Act) (m:Nat) (ds:List Nat) (R:Nat->Value->World->Prop) (listed:Array Bool) (b:Act) (w:World) (V:Nat->Value):Prop where
 size:listed.size=ops.size
 fill:b=Zs V ds a
 ext:Ext W w
 tail:∀i,i<ops.size->listed.getD i false=true->i<m
 fact:∀i,i<m->listed.getD i false=true->R i (V (ds.getD i 0)) w
 down:∀k i,k<ops.size->listed.getD k false=true->SK ops k i=true->listed.getD i false=true
def lH{l:Array Bool}{i:Nat}(h:i<l.size):l.getD i true=l.getD i false:=by simp[h]
def ZkG(Mf:VR ops m ds deps=true)
 (p9:∀i v w w',R i v w->Ext w w'->R i v w')
 (aCd:∀i o,i<m->ops[i]? =some o->∀V w,Ext W w->(∀j∈deps.getD i [],R j (V (ds.getD j 0)) w)->L8 P o (Zs V ds a) w λv w'=>Ext w w'/\R i v w')
 (aBb:∀V w,Ext W w->(∀j,j<m->R j (V (ds.getD j 0)) w)->wpAny P .any ops Q (ops.size-m) (YG ops.size m) (Zs V ds a) w):
 ∀(fuel:Nat)(listed:Array Bool)(b:Act)(w:World)(V:Nat->Value),cnt ops.size listed=fuel->ZnF ops W a m ds R listed b w V->wpAny P .any ops Q fuel listed b w:=by
 simp only[VR,P1,G2]at Mf;obtain⟨⟨⟨⟨⟨⟨⟨⟨c1,c2⟩,c3⟩,c4⟩,c5⟩,c6⟩,c7⟩,c8⟩,c9⟩:=Mf;rw[M1]at c4 c5 c6 c7;intro fuel
 induction fuel with
 |zero=>
  intro listed b w V hc I;exfalso;have hm:listed.getD m true=false:=by
   rw[lH (by rw[I.size];exact c1)]
   cases h:listed.getD m false with
   |false=>rfl
   |true=>exact absurd (I.tail m c1 h) (A6 _)
  have:=lG I.size hm;omega
 |succ fuel ih=>
  intro listed b w V hc I;have Ff:m∈Region.ready .any ops listed->listed=YG ops.size m:=λhr=>by
   obtain⟨Wa,o,ho,aBD⟩:=mem_ready.1 hr;have hl:∀d i,i<m->m-i=d->listed.getD i false=true:=by
    intro d
    induction d using Nat.strongRecOn with
    |_ d ihd=>intro i hi hd;have h6:=c6 i (P5.2 hi);rw[VK]at h6;obtain⟨k,hk,Pl⟩:=h6;rw[P5]at hk;rw[P1,G2]at Pl;by_cases hkm:k=m;(·subst hkm;obtain⟨e,he,hb,hon⟩:=KX ho Pl.2;rw[<-hon];exact aBD e he hb);·have Ng:listed.getD k false=true:=ihd (m-k) C0 k C0 rfl;exact I.down k i C0 Ng Pl.2
   apply Array.ext;(·rw[I.size];simp[YG];omega)
   .intro i h1 h2;have h1':i<ops.size:=(by rw[<-I.size];exact h1);by_cases Ym:i<m;(·have:=hl _ i Ym rfl;simp[h1]at this;simp[YG,Ym,this])
    .have:listed.getD i false=false:=by
      cases h:listed.getD i false with
      |false=>rfl
      |true=>exact absurd (I.tail i h1' h) Ym
     simp[h1]at this;simp[YG,List.getElem_append,Ym,this]
  have Wa:listed.getD m false=false:=by
   cases h:listed.getD m false with
   |false=>rfl
   |true=>exact absurd (I.tail m c1 h) (A6 _)
  have aGe:Region.ready .any ops listed≠ []:=by
   intro By;have key:∀i,i<=m->listed.getD i false=true:=by
    intro i
    induction i using Nat.strongRecOn with
    |_ i ihi=>
     intro Ym
     cases h:listed.getD i false with
     |true=>rfl
     |false=>exfalso;have Bd:i<ops.size:=C0;have h5:=c5 i (P5.2 Bd);obtain⟨o,ho⟩:∃o,ops[i]? =some o:=⟨_,LS Bd⟩;rw[ho]at h5;simp only[Array.all_eq_true_iff_forall_mem,I8,KY,G2]at h5;have:i∈Region.ready .any ops listed:=(by rw[mem_ready];refine⟨by rw[lH (by rw[I.size];exact Bd)];exact h,o,ho,λe he hb=> ?_⟩;rcases h5 e he with h5|h5;(·rw[hb]at h5;cases h5);·exact ihi e.on h5 C0);rw[By]at this;cases this
   rw[key m (J0 _)]at Wa;cases Wa
  by_cases hmr:m∈Region.ready .any ops listed;(·have he:=Ff hmr;subst he;rw[<-hc,c8,I.fill];refine aBb V w I.ext (λj hj=>I.fact j hj ?_);have:j<ops.size:=C0;simp[YG,List.getElem?_append,hj]);refine⟨λh=>absurd h aGe,λi hi=> ?_⟩;obtain⟨hiu,o,ho,aBD⟩:=mem_ready.1 hi;have Bd:i<ops.size:=(V3.1 ho).1;have Ym:i<m:=(by rcases Nat.lt_trichotomy i m with h|h|h;(·exact h);(·exact absurd (h▸hi) hmr);·exfalso;have h7:=c7 i (P5.2 Bd);rw[I8,G2,VK]at h7;rcases h7 with h7|⟨k,hk,Pl⟩;(·omega);·rw[P5]at hk;rw[P1,G2]at Pl;obtain⟨e,he,hb,hon⟩:=KX ho Pl.2;have:=aBD e he hb;rw[hon]at this;exact absurd (I.tail k hk this) C0);have h4:=c4 i (P5.2 Ym);rw[ho]at h4;simp only[P1,I1,M1,G2]at h4;obtain⟨⟨hg,hd⟩,Dx⟩:=h4;have hgn:o.guard=none:=by cases h:o.guard with
   |none=>rfl
   |some x=>rw[h]at hg;cases hg
  have hw:Region.wanted o (yielded ops b.tmps)=true:=(by simp[Region.wanted,hgn]);unfold wpOp;rw[ho];simp only[hw,M3];refine .inl ?_;have hs:=aCd i o Ym ho V w I.ext (λj hj=>by obtain⟨h1,h2⟩:=Dx j hj;obtain⟨e,he,hb,hon⟩:=KX ho h2;exact I.fact j C0 (by rw[<-hon];exact aBD e he hb));rw[I.fill];refine xM hs (λv w' ⟨hx,hR⟩=> ?_);have Jp:ds.getD i 0∈ds:=(by rw[F1,P0 C0];exact YL _);rw[hd,ZjN V _ v ds a c3 Jp];refine ih _ _ _ _ ?_ ⟨?_,rfl,I.ext.trans hx,?_,?_,?_⟩;(·have:=lG I.size hiu;omega);(·rw[Array.size_setIfInBounds];exact I.size);(·intro k hk hl;by_cases Oe:i=k;(·omega);·rw[KW false Oe]at hl;exact I.tail k hk hl);(·intro k hk hl;by_cases Oe:i=k;(·subst Oe;rw[G0 rfl];exact hR);·rw[KW false Oe]at hl;have k7:ds.getD k 0≠ds.getD i 0:=(by rw[F1,F1,P0 (show k<ds.length by omega),P0 (show i<ds.length by omega)];simp only[Option.getD_some];intro h;exact Oe ((List.getElem_inj c3).1 h).symm);rw[D0 k7];exact p9 k _ _ _ (I.fact k hk hl) hx);·intro k j hk hl hj;by_cases Oe:i=k;(·subst Oe;obtain⟨e,he,hb,hon⟩:=KX ho hj;exact getD_set_true (by rw[<-hon];exact aBD e he hb));·rw[KW false Oe]at hl;exact getD_set_true (I.down k j hk hl hj)
def Zfy{id:Nat}(hm:P.follows .mixedOrders=true)(Mf:VR ops m ds deps=true)
 (p9:∀i v w w',R i v w->Ext w w'->R i v w')
 (aCd:∀i o,i<m->ops[i]? =some o->∀V w,Ext W w->(∀j∈deps.getD i [],R j (V (ds.getD j 0)) w)->L8 P o (Zs V ds a) w λv w'=>Ext w w'/\R i v w')
 (aBb:∀V w,Ext W w->(∀j,j<m->R j (V (ds.getD j 0)) w)->wpAny P .any ops Q (ops.size-m) (YG ops.size m) (Zs V ds a) w):
 (Code.region id ops true).wp P Q a W:=by
 refine wp_region_any hm ?_;have hc:cnt ops.size (Array.replicate ops.size false)=ops.size:=by simp only[VR,P1,G2]at Mf;exact Mf.2
 have hf:∀i,(Array.replicate ops.size false).getD i false=false:=λi=>by rw[gJ,Array.getElem?_replicate];split<;>rfl
 refine ZkG Mf p9 aCd aBb _ _ _ _ (λd=>a.tmps.getD d undef) hc ⟨by simp,(ZiE ds a).symm,(Ext.refl W).drew,?_,?_,?_⟩
 .intro i _ h;rw[hf]at h;cases h
 .intro i _ h;rw[hf]at h;cases h
 .intro k i _ h;rw[hf]at h;cases h
end
abbrev Rel:=Value->World->Prop
def eqv(t:Value):Rel:=λv _=>v=t
def Rel.aAJ(R:Rel):Prop:=∀v w w',R v w->Ext w w'->R v w'
def Zz(t:Value):Rel.aAJ (eqv t):=λ_ _ _ h _=>h
def XO(acc:List Rel)(k:Nat)(ds:List Nat)(V:Nat->Value)(w:World):List Nat->Prop
 | []=>True
 |j::l=>(acc.getD (k-1-j) λ_ _=>True) (V (ds.getD j 0)) w/\XO acc k ds V w l
def lI{acc:List Rel}{k:Nat}{ds:List Nat}{V:Nat->Value}{w:World}{l:List Nat}:XO acc k ds V w l↔∀j∈l,(acc.getD (k-1-j) λ_ _=>True) (V (ds.getD j 0)) w:=by
 induction l with
 |nil=>simp[XO]
 |cons j l ih=>simp[XO,ih]
def VT(P:Program)(W:World)(a:Act)(ds:List Nat)(deps:List (List Nat))(fin:List Rel->Prop):List Oper->Nat->List Rel->Prop
 | [],_,acc=>fin acc
 |o::rest,k,acc=>∃R:Rel,R.aAJ/\(∀V w,Ext W w->XO acc k ds V w (deps.getD k [])->L8 P o (Zs V ds a) w λv w'=>Ext w w'/\R v w')/\VT P W a ds deps fin rest (k+1) (R::acc)
def lJ{P:Program}{W:World}{a:Act}{ds:List Nat}{deps:List (List Nat)}{fin:List Rel->Prop}:∀(l:List Oper)(k:Nat)(acc:List Rel),acc.length=k->(∀R∈acc,Rel.aAJ R)->VT P W a ds deps fin l k acc->
 ∃all:List Rel,all.length=k+l.length/\(∀i,i<k->all[i]? =acc.reverse[i]?)/\(∀R∈all,Rel.aAJ R)/\fin all.reverse/\
  ∀i o,l[i]? =some o->∀V w,Ext W w->(∀j∈deps.getD (k+i) [],j<k+i/\(all.getD j λ_ _=>True) (V (ds.getD j 0)) w)->L8 P o (Zs V ds a) w λv w'=>Ext w w'/\(all.getD (k+i) λ_ _=>True) v w'
 | [],k,acc,hk,hs,h=>⟨acc.reverse,by simpa using hk,λ_ _=>rfl,λR hR=>hs R (CN.1 hR),by rw[FH];exact h,λi o hi=>by simp at hi⟩
 |o::rest,k,acc,hk,hs,h=>by
  obtain⟨R,hR,h1,h2⟩:=h;obtain⟨all,a1,a2,a3,a4,a5⟩:=lJ rest (k+1) (R::acc) (by rw[B1,hk]) (λX hX=>by rcases E2.1 hX with h|h;(·rw[h];exact hR);·exact hs X h) h2;rw[WL]at a2;have hlr:acc.reverse.length=k:=(by rw[D6,hk]);refine⟨all,by rw[a1,B1];omega,λi hi=> ?_,a3,a4,λi o' hi V w hx hf=> ?_⟩;(·rw[a2 i C0,WN C0])
  .cases i with
   |zero=>simp only[List.getElem?_cons_zero,P2]at hi;subst hi;have Hq:all[k]? =some R:=(by rw[a2 k C0,VZ C0,hlr];simp);rw[Nat.add_zero]at hf;have:=h1 V w hx (lI.2 λj hj=>by obtain⟨hjk,hh⟩:=hf j hj;rw[F1,a2 j C0,WN C0,KZ C0,hk]at hh;rw[F1];exact hh);rw[Nat.add_zero,F1,Hq];exact L3
   |succ i=>rw[List.getElem?_cons_succ]at hi;have:=a5 i o' hi V w hx (by rw[show k+1+i=k+(i+1) by omega];exact hf);rw[show k+1+i=k+(i+1) by omega]at this;exact L3
def ZG{P:Program}{Q:Exit->Act->World->Prop}{W:World}{a:Act}{id:Nat}{ops:Array Oper}(m n:Nat)(hn:ops.size=m+n)(ds:List Nat)(deps:List (List Nat))(hm:P.follows .mixedOrders=true)(Mf:VR ops m ds deps=true)
 (h:VT P W a ds deps (λacc=>∀V w,Ext W w->XO acc m ds V w (List.range m)->wpAny P .any ops Q n (YG (m+n) m) (Zs V ds a) w) (ops.toList.take m) 0 []):
 (Code.region id ops true).wp P Q a W:=by
 obtain⟨all,a1,_,a3,a4,a5⟩:=lJ _ 0 [] rfl (λR h=>by cases h) h;have hmz:m<ops.size:=by simp only[VR,P1,G2]at Mf;exact Mf.1.1.1.1.1.1.1.1
 have hlen:all.length=m:=by rw[a1,J1,WG];omega
 have hdm:∀i,i<m->∀j∈deps.getD i [],j<i:=by
  simp only[VR,P1,G2]at Mf
  have c4:=Mf.1.1.1.1.1.2
  rw[M1]at c4
  intro i hi j hj
  have h4:=c4 i (P5.2 hi)
  cases ho:ops[i]? with
  |none=>rw[ho]at h4;cases h4
  |some o=>rw[ho]at h4;simp only[P1,M1,G2]at h4;exact(h4.2 j hj).1
 refine Zfy (R:=λi=>all.getD i λ_ _=>True) (m:=m) (ds:=ds) (deps:=deps) hm Mf ?_ ?_ ?_
 .intro i v w w' h hx
  rw[F1]at h⊢
  cases hi:all[i]? with
  |none=>rw[hi]at h;trivial
  |some R=>rw[hi]at h;exact a3 R (L1 hi) v w w' h hx
 .intro i o hi ho V w hx hf;have h1:(ops.toList.take m)[i]? =some o:=(by rw[YY,G0 hi,LQ];exact ho);have:=a5 i o h1 V w hx (by intro j hj;rw[Nat.zero_add]at hj⊢;exact⟨hdm i hi j hj,hf j hj⟩);rw[Nat.zero_add]at this;exact L3
 .intro V w hx hf;have h0:=a4 V w hx (by rw[lI];intro j hj;have hjm:=P5.1 hj;have:=hf j hjm;rw[F1]at this⊢;rw[KZ C0,hlen,show m-1-(m-1-j)=j by omega];exact this);rw[hn,show m+n-m=n by omega];exact h0
def Zb{P:Program}{W:World}{a:Act}{ds:List Nat}{deps:List (List Nat)}{fin:List Rel->Prop}{o:Oper}{rest:List Oper}{k:Nat}{acc:List Rel}{t:Value}
 (h1:∀V w,Ext W w->XO acc k ds V w (deps.getD k [])->L8 P o (Zs V ds a) w λv w'=>Ext w w'/\v=t)(h2:VT P W a ds deps fin rest (k+1) (eqv t::acc)):VT P W a ds deps fin (o::rest) k acc:=
 ⟨eqv t,Zz t,h1,h2⟩
def Zg{P:Program}{W:World}{a:Act}{ds:List Nat}{deps:List (List Nat)}{fin:List Rel->Prop}{o:Oper}{rest:List Oper}{k:Nat}{acc:List Rel}(R:Rel)(hR:R.aAJ)
 (h1:∀V w,Ext W w->XO acc k ds V w (deps.getD k [])->L8 P o (Zs V ds a) w λv w'=>Ext w w'/\R v w')(h2:VT P W a ds deps fin rest (k+1) (R::acc)):VT P W a ds deps fin (o::rest) k acc:=
 ⟨R,hR,h1,h2⟩
def lK(V:Nat->Value)(d:Nat):∀(ds:List Nat)(a:Act),ds.contains d=false->(Zs V ds a).tmps.getD d undef=a.tmps.getD d undef:=by
 intro ds
 induction ds with
 |nil=>intro a _;rfl
 |cons c ds ih=>intro a h;simp only[List.contains_cons,XF,O0]at h;show(Zs V ds (a.put (some c) (V c))).tmps.getD d undef=_;rw[ih _ (by simpa using h.2)];unfold Act.put;simp[xN (show c≠d from λe=>h.1 e.symm)]
def ZiF(V:Nat->Value):∀(ds:List Nat)(a:Act),(Zs V ds a).tmps.size=a.tmps.size:=by
 intro ds
 induction ds with
 |nil=>intro a;rfl
 |cons c ds ih=>intro a;show(Zs V ds (a.put (some c) (V c))).tmps.size=_;rw[ih];simp[Act.put]
def ZiC(V:Nat->Value)(d:Nat):∀(ds:List Nat)(a:Act),ds.contains d=true->d<a.tmps.size->(Zs V ds a).tmps.getD d undef=V d:=by
 intro ds
 induction ds with
 |nil=>intro a h;cases h
 |cons c ds ih=>intro a h hs;show(Zs V ds (a.put (some c) (V c))).tmps.getD d undef=_;by_cases hd:ds.contains d=true;(·exact ih _ hd (by simp[Act.put];exact hs));·have Yj:ds.contains d=false:=(by simpa using hd);rw[lK V d ds _ Yj];simp only[List.contains_cons,Yj,Bool.or_false,I1]at h;subst h;simp[Act.put,hs]
def Ze{A:Act}{V:Nat->Value}{ds:List Nat}{a:Act}(hA:A=Zs V ds a)(d:Nat)(h:(ds.contains d&&decide (d<a.tmps.size))=true):A.eval (.tmp d)=V d:=by rw[P1,G2]at h;subst hA;exact ZiC V d ds a h.1 h.2
def ZL{A:Act}{V:Nat->Value}{ds:List Nat}{a:Act}(hA:A=Zs V ds a)(d:Nat)(h:ds.contains d=false):A.eval (.tmp d)=a.eval (.tmp d):=by subst hA;exact lK V d ds a h
def Zc{P:Program}{o:Oper}{V:Nat->Value}{ds:List Nat}{a:Act}{w:World}{K:Value->World->Prop}
 (h:∀(A:Act)(ρ:Operand->Value),A=Zs V ds a->ρ=A.eval->(∀v,ρ (.const v)=v)->(∀f,ρ (.func f)=.func (.func f) #[] #[])->Zh P K ((execOp ρ o).run P w)):L8 P o (Zs V ds a) w K:=
 h _ _ rfl rfl (λ_=>rfl) (λ_=>rfl)
def XP{P:Program}{o:Oper}{ρ:Operand->Value}{w:World}{K:Value->World->Prop}{x:Operand}(h:o.op=.move x\/o.op=.assign x:=by first|exact .inl rfl|exact .inr rfl)(hk:K (ρ x) w):Zh P K ((execOp ρ o).run P w):=lL
def lM{P:Program}{o:Oper}{a:Act}{w:World}{K:Value->World->Prop}{x:Operand}(h:o.op=.move x\/o.op=.assign x:=by first|exact .inl rfl|exact .inr rfl)(hk:K (a.eval x) w):L8 P o a w K:=by unfold L8;exact lL
def xO{P:Program}{ops:Array Oper}{Q:Exit->Act->World->Prop}{fuel:Nat}{listed:Array Bool}{a:Act}{w:World}(i:Nat)(o:Oper)(hr:Region.ready .any ops listed=[i])(ho:ops[i]? =some o)(hg:o.guard=none)
 (h:o.wp P a w (wpAny P .any ops Q fuel (listed.setIfInBounds i true)) Q):wpAny P .any ops Q (fuel+1) listed a w:=by
 refine⟨λh=>(by rw[hr]at h;cases h),λj hj=> ?_⟩;rw[hr,D3]at hj;subst hj;unfold wpOp;rw[ho];simp only[show Region.wanted o (yielded ops a.tmps)=true by simp[Region.wanted,hg],M3];exact .inl h
def Zll{a:Act}{d:Nat}{v:Value}(h:d<a.tmps.size):(a.put (some d) v).eval (.tmp d)=v:=by simp[Act.put,Act.eval,h]
def lN{P:Program}{ops:Array Oper}{Q:Exit->Act->World->Prop}{listed:Array Bool}{V:Nat->Value}{ds:List Nat}{a:Act}{w:World}(i d d2:Nat)(o p:Oper)(hr:Region.ready .any ops listed=[i])(ho:ops[i]? =some o)(hg:o.guard=none)
 (Aa:Region.ready .any ops (listed.setIfInBounds i true)=[i+1])(hp:ops[i+1]? =some p)(hgp:p.guard=none)(hpx:p.op=.move (.tmp d)\/p.op=.assign (.tmp d))(Ui:Region.ready .any ops ((listed.setIfInBounds i true).setIfInBounds (i+1) true)=[])
 (hod:o.dst=some d)(hpd:p.dst=some d2)(o4:decide (d<a.tmps.size)=true)
 (h:∀K:Act->World->Prop,(∀v w',Q .normal (((Zs V ds a).put (some d) v).put (some d2) v) w'->K ((Zs V ds a).put o.dst v) w')->o.wp P (Zs V ds a) w K Q):wpAny P .any ops Q 2 listed (Zs V ds a) w:=by
 refine xO (fuel:=1) i o hr ho hg (h _ (λv w' hq=> ?_));refine xO (fuel:=0) (i+1) p Aa hp hgp ?_;refine xM (K:=λu x=>u=v/\x=w') (lM (x:=.tmp d) hpx ⟨?_,rfl⟩) (λu x ⟨hv,hu⟩=>⟨Ui,?_⟩)
 .rw[hod];exact Zll (by rw[ZiF];exact D4 o4)
 .subst hv;subst hu;rw[hod,hpd];exact hq
def OG{P:Program}{ops:Array Oper}{Q:Exit->Act->World->Prop}{listed:Array Bool}{V:Nat->Value}{ds:List Nat}{a:Act}{w:World}(i d d2:Nat)(p:Oper)(hr:Region.ready .any ops listed=[i])(hp:ops[i]? =some p)(hgp:p.guard=none)
 (hpx:p.op=.move (.tmp d)\/p.op=.assign (.tmp d))(Ui:Region.ready .any ops (listed.setIfInBounds i true)=[])(hpd:p.dst=some d2)(o4:(ds.contains d&&decide (d<a.tmps.size))=true)
 (h:Q .normal ((Zs V ds a).put (some d2) (V d)) w):wpAny P .any ops Q 1 listed (Zs V ds a) w:=by
 refine xO (fuel:=0) i p hr hp hgp ?_;refine xM (K:=λu x=>u=V d/\x=w) (lM (x:=.tmp d) hpx ⟨Ze rfl d o4,rfl⟩) (λu x ⟨hv,hu⟩=>⟨Ui,?_⟩);subst hv;subst hu;rw[hpd];exact h
def ZkL(s:ByteArray)(p:UInt8->Bool)(k:Nat)(h:k<s.size):(s.data.toList.take (k+1)).all p=((s.data.toList.take k).all p&&p s[k]):=by rw[Z1 s k h,OA];simp
def lO(s:ByteArray)(p:UInt8->Bool)(k:Nat)(h:k<s.size)(hp:p s[k]=false):s.data.toList.all p=false:=lP
def ZH(s:ByteArray)(hs:s.size<=maxLen)(w:World):
 Calls prog 118 #[.string s] w λe w'=>e=.returned (.bool (Ea.o6 s.data.toList))/\w=w':=by
 have Le:s.size<=9223372036854775807:=hs;clear hs;obtain⟨res,j7⟩:∃res,Ea.o6 s.data.toList=res:=⟨_,rfl⟩;rw[j7];have Ak:=B0 j7;clear j7;go_enter func118,ntmps118;go_wp2;go_loop [3] (λi=>∃k:Nat,k<=s.size/\i=.int .i64 (k:Int)/\Hid ((s.data.toList.take k).all (λc=>Cd.isDig c.toNat)=true)) (λi=>s.size-(intOf i).toNat)
 case atStart=>exact C7
 case round=>obtain⟨k,hk,rfl,IL⟩:=hrel;by_cases hlt:k<s.size;(·have HA:=B0 (ZkL s (λc=>Cd.isDig c.toNat) k hlt);by_cases h1:s[k].toNat<48;(·have hf:=lO s (λc=>Cd.isDig c.toNat) k hlt LF;have HF:Hid (res=false):=B0 (by rw[<-Ak.out];exact hf);have d1:decide ((s[k].toNat:Int)<48)=true:=C1 C0;clear hf h1;exact XG);·have d1:decide ((s[k].toNat:Int)<48)=false:=G1 C0;by_cases h2:57<s[k].toNat;(·have hf:=lO s (λc=>Cd.isDig c.toNat) k hlt LF;have HF:Hid (res=false):=B0 (by rw[<-Ak.out];exact hf);have d2:decide (57<(s[k].toNat:Int))=true:=C1 C0;clear hf h1 h2;exact XG);·have d2:decide (57<(s[k].toNat:Int))=false:=G1 C0;have HO:Hid ((s.data.toList.take (k+1)).all (λc=>Cd.isDig c.toNat)=true):=B0 aM;clear h1 h2;exact PH);·obtain rfl:k=s.size:=C0;have HF:Hid (res=true):=B0 (by rw[<-Ak.out,<-IL.out,Zu];rfl);clear hk hlt IL;exact XG
def Zle(s:ByteArray)(j:Nat)(h:j<s.size):s.data.toList.drop (s.size-(j+1))=(s[s.size-1-j]' C0)::s.data.toList.drop (s.size-j):=by rw[show s.size-(j+1)=s.size-1-j by omega,R8 s (s.size-1-j) C0,show s.size-1-j+1=s.size-j by omega]
def ZkU:∀n:Fin 10,(Cd.chr (n.1:Int)).toNat=48+n.1:=by decide
def ZkY(w:World)(c:UInt8)(x:Int)(hx:x=(c.toNat:Int)):
 (convert 90 9 (.slice (some ⟨w.heap.size,0,none⟩) 1 1)).run prog (w.alloc (.cells #[.int .u8 x] 5))=.ok (.string (Ea.bS [c])) (w.alloc (.cells #[.int .u8 x] 5)):=by
 subst hx;exact Zp (w:=w.alloc (.cells #[.int .u8 (c.toNat:Int)] 5)) (l:=[c]) (.inr ⟨w.heap.size,0,1,rfl,by simp,λi hi=>by simp only[M4,H7,B1,I3]at hi;obtain rfl:i=0:=C0;exact R7 #[.int .u8 (c.toNat:Int)] 5 w rfl⟩)
def lQ(s:ByteArray)(hs:s.size<=4096)(HD:Hid (Ea.o6 s.data.toList=true))(w:World):
 Calls prog 188 #[.string s] w λe w'=>e=.returned (.string (Ea.bS [Ea.Bk s.data.toList]))/\Ext w w':=by
 go_enter func188,ntmps188;go_wp2;go_loop [3,4,5] (λt x i=>∃j:Nat,j<=s.size/\i=.int .i64 ((s.size:Int)-1-(j:Int))/\t=.int .i64 (Cd.gsP (s.data.toList.drop (s.size-j))).1/\x=.int .i64 (Cd.gsP (s.data.toList.drop (s.size-j))).2) (λ_ _ i=>(intOf i+1).toNat)
 case atStart=>exact⟨0,R0 _,by rw[show(s.size:Int)-1-((0:Nat):Int)=(s.size:Int)-1 by omega],by rw[T8,V7];rfl,by rw[T8,V7];rfl⟩
 case round=>obtain⟨j,hj,rfl,rfl,rfl⟩:=hrel;have hb:=Cd.gsP_bd _ (Cd.Vh (Ea.aAu HD.out) (s.size-j));rw[Z7]at hb;obtain⟨o8,n7⟩:=hb;by_cases hlt:j<s.size;(·have Jn:48<=(s[s.size-1-j]' C0).toNat/\(s[s.size-1-j]' C0).toNat<=57:=(Ea.aAu HD.out) _ (Zl s (s.size-1-j) C0);have hw:=Cd.gsP_w (s.data.toList.drop (s.size-j));have s5:Cd.gsP (s.data.toList.drop (s.size-(j+1)))=((Cd.gsP (s.data.toList.drop (s.size-j))).1+(Cd.gsP (s.data.toList.drop (s.size-j))).2*Cd.dg (s[s.size-1-j]' C0),4-(Cd.gsP (s.data.toList.drop (s.size-j))).2):=V0 Cd.gsP (Zle s j hlt);generalize Cd.gsP (s.data.toList.drop (s.size-j))=g at*;obtain⟨q,hq⟩:∃q,s.size-1-j=q:=⟨_,rfl⟩;have Ys:(s.size:Int)-1-(j:Int)=(q:Int):=C0;have hqs:q<s.size:=C0;have hsq:(s[s.size-1-j]' C0)=s[q]:=(by congr 1);rw[hsq]at Jn s5;rw[Ys];have HQ:Hid (s.size-1-j=q/\(s.size:Int)-1-(j:Int)=(q:Int)):=B0 ⟨hq,Ys⟩;obtain⟨e1,e2⟩:=Jn;have Dx:Cd.dg s[q]=(s[q].toNat:Int)-48:=rfl;rw[Dx]at s5;have HS:=B0 s5;clear s5 hq Ys hsq Dx;obtain⟨a,b⟩:=g;dsimp only at hw o8 n7 HS⊢;have hb3:1<=b/\b<=3:=(by split at hw<;>omega);obtain⟨f1,f2⟩:=hb3;clear hw;obtain⟨y,hy⟩:∃y,b*((s[q].toNat:Int)-48)=y:=⟨_,rfl⟩;have hyb:0<=y/\y<=27:=(by rw[<-hy];have Ds:b=1\/b=2\/b=3:=C0;rcases Ds with rfl|rfl|rfl<;>omega);rw[hy]at HS;obtain⟨y1,y2⟩:=hyb;go_wp2;go_round;(case rel=>exact⟨j+1,by omega,by have:=HQ.out.2;congr 1;omega,by rw[HS.out],by rw[HS.out]⟩);case measure=>simp[intOf]);·obtain rfl:j=s.size:=C0;rw[Y3,B5]at o8 n7⊢;obtain⟨g,hg⟩:∃g,(Cd.gsP s.data.toList).1=g:=⟨_,rfl⟩;have HC:Hid (Ea.Bk s.data.toList=Cd.chr ((10-g%10)%10)):=B0 (by unfold Ea.Bk;rw[hg]);rw[hg]at o8 n7⊢;clear hg hj hlt;rw[show(s.size:Int)-1-(s.size:Int)= -1 by omega];generalize(Cd.gsP s.data.toList).2=b;obtain⟨x,hx⟩:∃x:Nat,(10-g%10)%10=(x:Int):=⟨((10-g%10)%10).toNat,by omega⟩;have aBk:x<10:=C0;have Cv:=ZkY w (Cd.chr (x:Int)) (48+(x:Int)) (by have h:=ZkU ⟨x,aBk⟩;dsimp only at h;rw[h];omega);rw[hx]at HC;go_wp2;go_ret;exact⟨by rw[HC.out];rfl,Xe⟩
def lR(k:Int)(w:World):Calls prog 117 #[.int .i64 k] w λe w'=>e=.returned (.int .i64 (Ea.size k:Int))/\w=w':=by
 have h:k=1\/k=2\/k=3\/k=4\/(k≠1/\k≠2/\k≠3/\k≠4):=by omega
 rcases h with rfl|rfl|rfl|rfl|⟨h1,h2,h3,h4⟩;iterate 4
  .go_enter func117,ntmps117;exact Q9
 .have e:Ea.size k=0:=aK;have b1:(k==1)=false:=O0.2 h1;have b2:(k==2)=false:=O0.2 h2;have b3:(k==3)=false:=O0.2 h3;have b4:(k==4)=false:=O0.2 h4;rw[e];clear h1 h2 h3 h4 e;go_enter func117,ntmps117;exact Q9
def Zpf{l:List UInt8}(h:l.length=7):∃a0 a1 a2 a3 a4 a5 a6,l=[a0,a1,a2,a3,a4,a5,a6]:=by
 match l,h with
 | [a0,a1,a2,a3,a4,a5,a6],_=>exact⟨_,_,_,_,_,_,_,rfl⟩
def Zmc{a:ByteArray}{l:List UInt8}(h:a.data.toList=l):Ending.returned (.string a)=.returned (.string (Ea.bS l)):=by rw[<-h,Ea.Xm]
def ZhI(s:ByteArray)(h7:s.size=7)(HD:Hid (Ea.o6 s.data.toList=true))(w:World):
 Calls prog 189 #[.string s] w λe w'=>e=.returned (.string (Ea.bS (Ea.Gf s.data.toList)))/\Ext w w':=by
 obtain⟨res,j7⟩:∃res,Ea.Gf s.data.toList=res:=⟨_,rfl⟩;rw[j7];obtain⟨a0,a1,a2,a3,a4,a5,a6,hl⟩:=Zpf (l:=s.data.toList) LV;have Tz:48<=a6.toNat:=((Ea.aAu HD.out) a6 (by rw[hl];simp)).1;rw[hl]at j7;have HR:=B0 j7;have HL:=B0 hl;have hs7:7<=s.size:=by omega
 have hs8:s.size<=7:=by omega
 have hi6:6<s.size:=by omega
 have h6:s[6]=a6:=by have h1:s.data.toList[6]? =some s[6]:=P0 (by rw[Za];exact hi6);rw[hl]at h1;simpa using h1.symm
 have h6n:s[6].toNat=a6.toNat:=by rw[h6]
 have HF:Hid (∀(x:ByteArray),x.data.toList=res->Ending.returned (.string x)=.returned (.string (Ea.bS res))):=B0 (λx hx=>Zmc hx);clear j7 hl h7 h6;have h:a6.toNat=48\/a6.toNat=49\/a6.toNat=50\/a6.toNat=51\/a6.toNat=52\/52<a6.toNat:=by omega
 have q0:a6.toNat≠48->((s[6].toNat:Int)==48)=false:=λh=>O0.2 C0
 have q1:a6.toNat≠49->((s[6].toNat:Int)==49)=false:=λh=>O0.2 C0
 have q2:a6.toNat≠50->((s[6].toNat:Int)==50)=false:=λh=>O0.2 C0
 have q3:a6.toNat≠51->((s[6].toNat:Int)==51)=false:=λh=>O0.2 C0
 have q4:a6.toNat≠52->((s[6].toNat:Int)==52)=false:=λh=>O0.2 C0
 have HG:Hid (a6.toNat<=50->(s.extract 0 3++s.extract 6 7++⟨#[48,48,48,48]⟩++s.extract 3 6).data.toList=res):=B0 (λh=>by have c1:a6<=50:=(by rw[PI];exact h);rw[<-HR.out];simp only[A4,B4,Zr,HL.out];unfold Ea.Gf;simp[c1]);rcases h with h|h|h|h|h|h
 .have d0:((s[6].toNat:Int)==48)=true:=I1.2 C0;exact xP
 .have d0:=q0 C0;have d1:((s[6].toNat:Int)==49)=true:=I1.2 C0;exact xP
 .have d0:=q0 C0;have d1:=q1 C0;have d2:((s[6].toNat:Int)==50)=true:=I1.2 C0;exact xP
 .have d0:=q0 C0;have d1:=q1 C0;have d2:=q2 C0;have d3:((s[6].toNat:Int)==51)=true:=I1.2 C0;obtain rfl:a6=51:=V4.1 h;have Rb:Hid ((s.extract 0 4++⟨#[48,48,48,48,48]⟩++s.extract 4 6).data.toList=res):=B0 lS;exact xQ
 .have d0:=q0 C0;have d1:=q1 C0;have d2:=q2 C0;have d3:=q3 C0;have d4:((s[6].toNat:Int)==52)=true:=I1.2 C0;obtain rfl:a6=52:=V4.1 h;have Rb:Hid ((s.extract 0 5++⟨#[48,48,48,48,48]⟩++s.extract 5 6).data.toList=res):=B0 lS;exact xQ
 .have d0:=q0 C0;have d1:=q1 C0;have d2:=q2 C0;have d3:=q3 C0;have d4:=q4 C0;have n50:¬a6<=50:=aP;have n51:¬a6=51:=LG;have n52:¬a6=52:=LG;have Rb:Hid ((s.extract 0 6++⟨#[48,48,48,48]⟩++s.extract 6 7).data.toList=res):=B0 (by rw[<-HR.out];simp only[A4,B4,Zr,HL.out];unfold Ea.Gf;simp[n50,n51,n52]);clear h q0 q1 q2 q3 q4 h6n Tz n50 n51 n52;exact lT
def ZgX(k:Int)(s:ByteArray)(hk:k=4->s.size=7)(hs:s.size<=4096)(HD:Hid (Ea.o6 s.data.toList=true))(w:World):
 Calls prog 119 #[.int .i64 k,.string s] w λe w'=>e=.returned (.string (Ea.bS [Ea.Hm k s.data.toList]))/\Ext w w':=by
 by_cases h4:k=4
 .subst h4;have h7:=hk rfl;have HE:=B0 (λw=>ZhI s h7 HD w);have hz:(Ea.bS (Ea.Gf s.data.toList)).size=11:=(by rw[Zd (Ea.Bw _),Ea.exp7_len LV]);have HC:=B0 (λw=>lQ (Ea.bS (Ea.Gf s.data.toList)) C0 (B0 (by rw[Ea.Bw];exact Ea.exp7_digs HD.out)) w);rw[Ea.Bw]at HC;have e:Ea.Hm 4 s.data.toList=Ea.Bk (Ea.Gf s.data.toList):=rfl;rw[e];generalize Ea.Gf s.data.toList=X at*;clear hz h7 hk hs e;go_enter func119,ntmps119;go_wp2_with fail;refine(HE.out _).mono ?_;rintro e w1 ⟨rfl,b7⟩;go_wp2_with fail;refine(HC.out _).mono ?_;rintro e w2 ⟨rfl,j0⟩;go_wp2;go_ret;exact⟨rfl,b7.trans j0⟩
 .have HC:=B0 (λw=>lQ s hs HD w);have e:Ea.Hm k s.data.toList=Ea.Bk s.data.toList:=(by unfold Ea.Hm;rw[D0 h4]);have b4:(k==4)=false:=O0.2 h4;rw[e];clear hk hs e h4;go_enter func119,ntmps119;go_wp2_with fail;refine(HC.out _).mono ?_;rintro e w1 ⟨rfl,b7⟩;go_wp2;go_ret;exact⟨rfl,b7⟩
end
end Go.Proofs.Enc
