/-
  Laid together.
-/
import Derived.Test.YtbngggoccndefaaGreatDoorDd44
set_option maxHeartbeats 16000000
set_option maxRecDepth 100000
set_option linter.unusedVariables false
set_option linter.unusedSimpArgs false
set_option linter.ambiguousOpen false
namespace Go.Proofs.YtbngggoccndefaaGreatDoor
open Go.Proofs.Tryz
section
namespace Ln
def Small (l:Lin):Prop:=0<=l.1∧l.1<=9∧l.2.1.length<=1000000∧l.2.2.length<=1000000
theorem full_len {k:Int} {l:List UInt8} (h:Ea.full k l=0):1<=k∧k<=4∧l.length<=13:=by
 unfold Ea.full at h;split at h;·cases h
 by_cases h0:Ea.size k=0;·unfold Ea.comp at h;exact QfZ
 have hk:=Ea.kinds h0;have hs:Ea.size k<=13:=by unfold Ea.size;exact QdT
 refine⟨by omega,by omega,?_⟩;unfold Ea.comp at h;rw[ZmF h0]at h;split at h;·cases h
 split at h;·cases h
 omega
theorem sym_len {n:Nat} {s:List Bool} (h:(Ea.rdSym n s).2=0):1<=(Ea.rdSym n s).1.1∧(Ea.rdSym n s).1.1<=4∧(Ea.rdSym n s).1.2.length<=13:=by
 unfold Ea.rdSym at h⊢
 split
 ·rename_i h1;exact Qfc
 rename_i h1
 rw[ZmF h1]at h
 split
 ·exact QfB
 rename_i h2
 rw[ZmF h2]at h
 cases hr:Ea.rdK n s with
 |none=>rw[hr]at h;cases h
 |some l=>rw[hr]at h;dsimp only at h⊢;split;(·rename_i h3;rw[ZmH h3]at h;cases h);rename_i h3;have:=full_len (ZnH.1 h3);split;(·simp only[Znr];omega);·exact QeN
theorem ean_small {row:List Bool} (h:(Ea.dec row).2=0):Small (Ea.dec row).1:=by
 have h1:=Ea.dec_ok h;rw[h1]at h⊢;obtain⟨⟨n,a⟩,p1,p2,p3,p4⟩:=Ea.decF_inv Ea.shapes 7 QhP (fun _ _ _ _=>trivial) h;rw[p4];dsimp only at p2 p3 p4⊢;have hna:(a=0∨a=2∨a=5):=by unfold Ea.shapes at p1;simp at p1;omega
 unfold Ea.rdShape at p3⊢;by_cases e1:(Ea.rdSym n ((Ea.trim row).take n)).2≠0;·rw[ZmH e1]at p3;exact absurd p3 e1
 rw[ZmF e1]at p3⊢;have hs:=sym_len (ZnH.1 e1);by_cases e2:a=0;·rw[ZmH e2];exact⟨by dsimp only;omega,by dsimp only;omega,by dsimp only;omega,by simp⟩
 rw[ZmF e2]at p3⊢;by_cases e3:(Ea.rdAdd a ((Ea.trim row).drop ((Ea.trim row).length-Ea.wAdd a))).2≠0;·rw[ZmH e3]at p3;exact absurd p3 e3
 rw[ZmF e3];have h5:=Ea.rdAdd_ok (n:=a) (s:=(Ea.trim row).drop ((Ea.trim row).length-Ea.wAdd a)) QhN (ZnH.1 e3);exact⟨by dsimp only;omega,by dsimp only;omega,by dsimp only;omega,by dsimp only;omega⟩
theorem read_len (cs ps edge inner:List UInt8) (z:Nat) (e:List UInt8):(Tw.read cs ps edge inner z e).1.length<=e.length+1:=by
 unfold Tw.read;split;·simp
 ·rw[ZmI,Zoj];exact Nat.div_le_self _ _
theorem readItf_len (e:List UInt8):(Tw.readItf e).1.length<=2*e.length:=by
 unfold Tw.readItf;split;·simp
 split;·simp
 split;·simp
 have:∀(l:List Nat),(l.flatMap fun i=>[(Tw.digA e i).1,(Tw.digB e i).1]).length=2*l.length:=by
  intro l
  induction l with
  |nil=>rfl
  |cons x l ih=>simp only[Zoo,ZmM,ZmQ,ZnE,ih];omega
 rw[this,Zoj];have:=Nat.div_le_self (e.length-7) 10;omega
theorem wide_len (ws:List Int):(Tw.wide ws).1.length<=ws.length:=by unfold Tw.wide;(repeat' split)<;>simp
theorem readK_len (k:Nat) (e:List UInt8):(Tw.readK k e).1.length<=2*e.length+1:=by
 unfold Tw.readK;split;·have:=read_len Tw.c39 Tw.p39 [42] Cd.syms 9 e;omega
 ·have:=read_len Tw.cCb Tw.pCb Tw.eCb Tw.dCb 7 e;omega
 ·have:=readItf_len e;omega
theorem textK_len (k:Nat) (l:List UInt8) (c:Bool):(Tw.textK k l c).length<=l.length+1:=by
 unfold Tw.textK;split;·unfold Tw.text39;exact Qe9
 ·unfold Tw.textCb;split;(·rw[ZmM,ZmY,Znr];omega);·omega
 ·unfold Tw.textItf;split;(·exact QeF);·omega
theorem decK_len (k:Nat) (ws:List Int) (c:Bool):(Tw.decK k ws c).1.length<=2*ws.length+2:=by
 have h1:=textK_len k (Tw.readK k (Tw.elems (Tw.wide ws).1)).1 c;have h2:=readK_len k (Tw.elems (Tw.wide ws).1);have h3:(Tw.elems (Tw.wide ws).1).length=(Tw.wide ws).1.length:=by unfold Tw.elems;simp
 have h4:=wide_len ws;unfold Tw.decK;split;·simp
 split;·simp
 split;·simp
 split;·simp
 dsimp only;omega
theorem two_small {k:Int} {row:List Bool} {l:Lin} (hk:0<=k∧k<=9) (hr:row.length<=65536) (h:rTwo k row=some l):Small l:=by
 unfold rTwo at h;split at h;·injection h with h;subst h;refine⟨hk.1,hk.2,?_,by simp⟩;have h1:=(Rn.widths_in row).2;(have h2:∀j,(Tw.decK j (Rn.widths row) false).1.length<=1000000:=fun j=>by have:=decK_len j (Rn.widths row) false;omega);dsimp only;unfold Tw.dec;(repeat' split);(·exact h2 _);(·exact h2 _);(·exact h2 _);·simp
 ·cases h
theorem format_len {xs:List Gs.El} {s:List UInt8} (h:Gs.format xs=(s,0)):s.length<=4096:=by
 unfold Gs.format at h;split at h;·exact Qd9
 ·split at h;(·simp at h);·simp only[Zn4,ZpJ]at h;subst h;omega
theorem r128_small {row:List Bool} {l:Lin} (hr:row.length<=65536) (h:r128 row=some l):Small l:=by
 unfold r128 at h;obtain⟨⟨cs,er⟩,hd⟩:∃r,r=Cc.dec row:=⟨_,rfl⟩;rw[<-hd]at h;unfold of128 at h;dsimp only at h;split at h;·cases h
 rename_i he;obtain rfl:er=0:=ZnH.1 he;have h1:=(Rn.widths_in row).2;have h2:=(Cc.dec_ge hd.symm).2;split at h;·split at h;(·cases h);split at h;(·cases h);rename_i h3 h4;injection h with h;subst h;obtain⟨⟨s,e3⟩,hf⟩:∃r,r=Gs.format (Gs.frChars cs).1:=⟨_,rfl⟩;rw[<-hf]at h4⊢;obtain rfl:e3=0:=ZnH.1 h4;have:=format_len hf.symm;refine⟨by dsimp only;omega,by dsimp only;omega,by dsimp only;omega,by simp⟩
 ·split at h;(·cases h);injection h with h;subst h;refine⟨by dsimp only;omega,by dsimp only;omega,by dsimp only;rw[ZmI];omega,by simp⟩
theorem reader_small {i:Nat} {row:List Bool} {l:Lin} (hr:row.length<=65536) (h:reader i row=some l):Small l:=by
 unfold reader at h;(repeat' split at h);·unfold rEan at h;split at h;(·rename_i h1;injection h with h;subst h;exact ean_small h1);·cases h
 ·exact r128_small hr h
 ·exact two_small QhN hr h
 ·exact two_small QhN hr h
 ·exact two_small QhN hr h
theorem zero_small:Small zero:=⟨by decide,by decide,by decide,by decide⟩
theorem found_small {row:List Bool} (hr:row.length<=65536):∀n,Small (found row n).2
 |0=>zero_small
 |n+1=>by
  unfold found
  cases h:reader n row with
  |none=>exact found_small hr n
  |some x=>exact reader_small hr h
theorem decode_small (row:List Bool):Small (decode row).1:=by
 unfold decode;split;·exact zero_small
 rename_i h1;split;·exact zero_small
 unfold outcome;split;·exact zero_small
 split;·exact zero_small
 exact found_small QhN 5
theorem try_small {left right s:Int}:∀ {cs:List (List Int)} {l:Lin},tryGo left right s cs=some l->Small l
 | [],l,h=>by cases h
 |c::cs,l,h=>by unfold tryGo at h;split at h;(·injection h with h;subst h;exact decode_small _);·exact try_small h
theorem read_small (row:List Bool):Small (read row).1:=by
 unfold read
 split
 ·exact zero_small
 split
 ·exact zero_small
 cases h:readD row with
 |some x=>exact try_small h
 |none=>
  cases h2:readD row.reverse with
  |some x=>exact try_small h2
  |none=>exact zero_small
theorem good_small {rows:List (List Bool)}:∀l∈good rows,Small l:=by
 intro l hl;unfold good at hl;obtain⟨r,-,h⟩:=List.mem_filterMap.1 hl;split at h;·injection h with h;subst h;exact read_small r
 ·cases h
def ordGo (o:List Lin):List Lin->List Lin
 | []=>o
 |x::l=>ordGo (if x∈o then o else o++[x]) l
def ord (l:List Lin):List Lin:=ordGo [] l
theorem ord_snoc (l:List Lin) (x:Lin):ord (l++[x])=if x∈ord l then ord l else ord l++[x]:=by
 have h:∀(l o:List Lin),ordGo o (l++[x])=if x∈ordGo o l then ordGo o l else ordGo o l++[x]:=by
  intro l
  induction l with
  |nil=>intro o;rfl
  |cons y l ih=>intro o;exact ih _
 exact h l []
theorem ord_mem (l:List Lin) (x:Lin):x∈ord l↔x∈l:=by
 suffices h:∀(l o:List Lin),x∈ordGo o l↔x∈o∨x∈l by simpa[ord]using h l []
 intro l
 induction l with
 |nil=>intro o;simp[ordGo]
 |cons y l ih=>intro o;rw[ordGo,ih,Zn8];split;(·rename_i h;constructor;(·rintro(h1|h1);(·exact .inl h1);·exact .inr (.inr h1));·rintro(h1|h1|h1);(·exact .inl h1);(·subst h1;exact .inl h);·exact .inr h1);·rw[ZnR,Znz];constructor;(·rintro((h1|h1)|h1);(·exact .inl h1);(·exact .inr (.inl h1));·exact .inr (.inr h1));·rintro(h1|h1|h1);(·exact .inl (.inl h1));(·exact .inl (.inr h1));·exact .inr h1
theorem ord_len (l:List Lin):(ord l).length<=l.length:=by
 suffices h:∀(l o:List Lin),(ordGo o l).length<=o.length+l.length by simpa[ord]using h l []
 intro l
 induction l with
 |nil=>intro o;simp[ordGo]
 |cons y l ih=>intro o;rw[ordGo,ZmQ];split;(·have:=ih o;omega);·have:=ih (o++[y]);rw[ZmM,ZoQ]at this;omega
theorem best_ord (all:List Lin):∀(l o:List Lin) (p q:Lin×Nat),bestGo all p o=q->(∀x∈o,all.count x<=q.2)->bestGo all p (ordGo o l)=bestGo all q l
 | [],o,p,q,h,_=>h
 |y::l,o,p,q,h,hq=>by
  have hap:∀(o:List Lin) (p:Lin×Nat),bestGo all p (o++[y])=(if(bestGo all p o).2<all.count y then(y,all.count y)else bestGo all p o):=by
   intro o
   induction o with
   |nil=>intro p;rfl
   |cons z o ih=>intro p;exact ih _
  rw[ordGo,bestGo];split;(·rename_i hy;rw[ZmF (by have:=hq y hy;omega)];exact best_ord all l o p q h hq);·refine best_ord all l (o++[y]) p _ (by rw[hap,h]) ?_;intro x hx;rw[ZnR,Znz]at hx;rcases hx with hx|rfl;(·have:=hq x hx;split<;>(try dsimp only)<;>omega);·split<;>(try dsimp only)<;>omega
theorem best_first (all l:List Lin):bestGo all (zero,0) (ord l)=bestGo all (zero,0) l:=best_ord all l [] _ _ rfl QhQ
end Ln
end
end Go.Proofs.YtbngggoccndefaaGreatDoor
namespace Go.Proofs.YtbngggoccndefaaGreatDoor
open Go.Proofs.Tryz
section
open Go.RowKit Go.Maps Go Go.WideMaps Go.ChangeMaps Go.ChangeMaps
theorem Zge:KeyLaw prog 33:=deep_law_laid Cc.laid (m:=3) QhN (Zok QhO) QhO (by rw[underlying33])
theorem Zbj:Keyed prog 33:=Keyed.of_law Zge
theorem ZhE {k:Int} {s a:ByteArray} (hk:(Lit.int .i64 k).wf=true) (hs:s.size<=maxLen) (ha:a.size<=maxLen):∃l,keyOf prog 33 (.agg #[.int .i64 k,.string s,.string a])=some l:=by
 unfold keyOf;simp only[underlying33];have h1:prog.keyType 33=true:=Qdu
 have h2:(Value.agg #[.int .i64 k,.string s,.string a]).formed prog 33=true:=Qdu
 obtain⟨d,hd⟩:∃d,prog.types.size+1=d+1+1:=⟨prog.types.size-1,by kernel_rfl⟩;rw[h1,h2,hd];simp only[Bool.and_self,ZoG];have hc:prog.cellsOf 33=3:=Qdu
 have hi:prog.cellsOf 22=1:=Qdu
 have hst:prog.cellsOf 9=1:=Qdu
 have u1:prog.underlying 22=some (.int .i64):=Qdu
 have u2:prog.underlying 9=some .string:=Qdu
 have k1:prog.keyLits (d+1) 22 [.int .i64 k]=some [.int .i64 k]:=by unfold Program.keyLits;rw[u1];simp[hk]
 have k2:∀s:ByteArray,s.size<=maxLen->prog.keyLits (d+1) 9 [.string s]=some [.string s.data.toList]:=fun s hs=>by unfold Program.keyLits;rw[u2];simp[hs]
 have k3:=k2 s hs;have k4:=k2 a ha;have key:∃ls,prog.keyLits (d+1+1) 33 (Value.agg #[.int .i64 k,.string s,.string a]).cells.toList=some ls:=by generalize hd2:d+1=d2 at*;unfold Program.keyLits;simp only[underlying33,Value.cells];rw[ZmH ⟨by rw[hc];rfl,by decide+kernel⟩];simp only[Zpq,List.mapM_nil];simp[hi,hst,k1,k3,k4]
 obtain⟨ls,hls⟩:=key;rw[hls];exact⟨_,rfl⟩
theorem Zet {w:World} {b:Nat} {o:Obj} (hb:w.heap[b]? =some o):setBlock w b o=w:=by
 have h:w.heap.setIfInBounds b o=w.heap:=by apply Zqt;intro i;by_cases hi:b=i;(·subst hi;rw[Array.getElem?_setIfInBounds_self_of_lt (Znn.1 hb).1,hb]);·rw[ZoT hi]
 unfold setBlock;rw[h]
theorem Zd9 (w:World) (b:Nat) (o o':Obj):setBlock (setBlock w b o) b o'=setBlock w b o':=by unfold setBlock;simp
theorem Zfx (w:World) (b:Nat) (o:Obj):w.grownBy (setBlock w b o) (some b):=by refine⟨rfl,rfl,rfl,by simp[setBlock],fun k hk hne=> ?_⟩;have:b≠k:=fun e=>hne (by rw[e]);simp[setBlock,ZoT this]
section
variable {P:Program} {w:World} {k e:TypeId} {T:TypeId} {α:Type} {key:α->Value}
theorem MapV.entry [DecidableEq α] {b n:Nat} {f:α->Option Int} (h:MapV P k key w b n f) (KL:KeyLaw P k) (ht:P.underlying T=some (.map k e)) (hz:∀u:World,(zeroValue e).run P u=.ok (.int .i64 0) u) {v:α} {l:Lit} (hv:keyOf P k (key v)=some l) (hn:n<maxLen) (hinj:∀a b:α,key a=key b->a=b):
 ∃(st:Nat) (w1:World),(Instr.mapEntry T (.map (some b)) (key v)).run P w=.ok (.tuple #[.int .i64 ((f v).getD 0),goInt st]) w1∧w.grownBy w1 (some b)∧
  (Instr.lookup T (.map (some b)) (key v) false).run P w1=.ok (.int .i64 ((f v).getD 0)) w1∧
  ∀m:Int,∃w3,(Instr.entryStore T (.map (some b)) (goInt st) (.int .i64 m)).run P w1=.ok () w3∧MapV P k key w3 b (n+1) (fun x=>if x=v then some m else f x)∧w.grownBy w3 (some b):=by
 have K:Keyed P k:=Keyed.of_law KL
 have hget:=h.get1 (T:=T) (e:=e) K ht (hz w) hv
 have hput:=fun m=>h.put (T:=T) (e:=e) K ht hv m hn hinj
 obtain⟨D,ho,hat⟩:=h
 obtain⟨es,clock,hb,F,hsz,hD⟩:=ho
 obtain⟨v0,st,es1,clock1,hrun,_,hst⟩:=WideElems.entry_then_store KL ht hz hb F hv
 obtain⟨c,hc⟩:∃c,c=(f v).getD 0:=⟨_,rfl⟩
 rw[<-hc]at hget⊢
 have hbl:b<w.heap.size:=(Znn.1 hb).1
 have key1:v0=.int .i64 c∧(Instr.lookup T (.map (some b)) (key v) false).run P (setBlock w b (.map es1 clock1))=.ok (.int .i64 c) (setBlock w b (.map es1 clock1)):=by rcases K.find w hv es.toList F.keys with⟨h1,h2⟩|⟨j,e0,h1,h2,h3⟩;(·have hr:(Instr.mapEntry T (.map (some b)) (key v)).run P w=.ok (.tuple #[.int .i64 0,goInt clock]) (setBlock w b (.map (es.push ⟨key v,.int .i64 0,clock⟩) (clock+1))):=(by simp[Instr.mapEntry,Zpo ht,Zpf hb,K.check w false hv,h1,hz,ZpX _ hb,Result.andThen,setBlock]);have hu:(Instr.mapUpdate T (.map (some b)) (key v) (.int .i64 0)).run P w=.ok () (setBlock w b (.map (es.push ⟨key v,.int .i64 0,clock⟩) (clock+1))):=(by simp[Instr.mapUpdate,Zpo ht,Zpf hb,K.check w false hv,h1,ZpX _ hb,Result.andThen,setBlock]);have hl:(Instr.lookup T (.map (some b)) (key v) false).run P w=.ok (.int .i64 0) w:=(by simp[Instr.lookup,Zpo ht,Zpf hb,K.check w es.isEmpty hv,h1,hz,Result.andThen]);rw[hl]at hget;injection hget with hget;injection hget with _ hc0;rw[hr]at hrun;injection hrun with hr1 hr2;injection hr1 with hr1;obtain⟨w',hp1,hp2,_⟩:=hput 0;rw[hu]at hp1;injection hp1 with _ hp1;rw[<-hr2];subst hp1;have hg:=hp2.get1 (T:=T) (e:=e) K ht (hz _) hv;(try dsimp only at hg);rw[ZmH rfl]at hg;refine⟨?_,by rw[hg,<-hc0];rfl⟩;have:=Znb (fun l:Array Value=>l[0]?) hr1;simp at this;rw[<-this,hc0]);·have hj:es[j]? =some e0:=QfS;have hs:es.modify j (fun e=> {e with key:=key v})=es:=(by apply Zqt;intro i;rw[ZoO];split;(·rename_i hij;subst hij;rw[hj,ZoV,<-h3]);·rfl);have hr:(Instr.mapEntry T (.map (some b)) (key v)).run P w=.ok (.tuple #[e0.val,goInt e0.born]) (setBlock w b (.map es clock)):=(by simp[Instr.mapEntry,Zpo ht,Zpf hb,K.check w false hv,h1,hj,h3,K.stays w hv,hs,ZpX _ hb,Result.andThen,setBlock]);have hl:(Instr.lookup T (.map (some b)) (key v) false).run P w=.ok e0.val w:=(by simp[Instr.lookup,Zpo ht,Zpf hb,K.check w es.isEmpty hv,h1,Result.andThen]);rw[hl]at hget;injection hget with hget;rw[hr]at hrun;injection hrun with hr1 hr2;injection hr1 with hr1;have hw:setBlock w b (.map es clock)=w:=Zet hb;rw[<-hr2,hw];refine⟨?_,by rw[hl,hget]⟩;have:=Znb (fun l:Array Value=>l[0]?) hr1;simp at this;rw[<-this,hget]
 obtain⟨hv0,hlk⟩:=key1
 subst hv0
 refine⟨st,_,hrun,?_,hlk,fun m=> ?_⟩
 ·exact Zfx w b _
 ·obtain⟨es',clock',h1,h2⟩:=hst (setBlock w b (.map es1 clock1)) (.int .i64 m) (heap_setBlock_same hb _);obtain⟨w',hp1,hp2,hp3⟩:=hput m;rw[h2]at hp1;injection hp1 with _ hp1;have hss:setBlock (setBlock w b (.map es1 clock1)) b (.map es' clock')=setBlock w b (.map es' clock'):=Zd9 w b _ _;rw[hss]at h1;subst hp1;exact⟨_,h1,hp2,hp3⟩
end
end
end Go.Proofs.YtbngggoccndefaaGreatDoor
namespace Go.Proofs.YtbngggoccndefaaGreatDoor
open Go.Proofs.Tryz
section
open Go.RowKit Go.Maps
abbrev Li:=Ln.Lin
def lnV (x:Li):Value:=.agg #[.int .i64 x.1,.string (Ea.bS x.2.1),.string (Ea.bS x.2.2)]
theorem Zk3:∀a b:Li,lnV a=lnV b->a=b:=by rintro⟨k,s,a⟩ ⟨j,t,b⟩ h;unfold lnV at h;simp only[Value.agg.injEq,Array.mk.injEq,Zp0,Value.int.injEq,Value.string.injEq,true_and,ZpJ]at h;obtain⟨rfl,h2,h3⟩:=h;rw[Ea.bS_inj.1 h2,Ea.bS_inj.1 h3]
theorem Zls {n:Int} (h1: -9223372036854775808<=n) (h2:n<=9223372036854775807):(Lit.int .i64 n).wf=true:=by show(decide (_<=n)&&decide (n<=_))=true;rw[ZmR (show IntKind.min .i64<=n from h1),ZmR (show n<=IntKind.max .i64 from h2)];rfl
theorem Zgf {x:Li} (h:Ln.Small x):∃l,keyOf prog 33 (lnV x)=some l:=
 ZhE (Zls (by have:=h.1;omega) (by have:=h.2.1;omega)) (by rw[Zc (Ea.bS_list _)];have:=h.2.2.1;unfold maxLen;omega) (by rw[Zc (Ea.bS_list _)];have:=h.2.2.2;unfold maxLen;omega)
def liC (xs:List Li):List Value:=xs.flatMap fun x=>[.int .i64 x.1,.string (Ea.bS x.2.1),.string (Ea.bS x.2.2)]
theorem ZiX (xs:List Li) (x:Li):liC (xs++[x])=liC xs++[.int .i64 x.1,.string (Ea.bS x.2.1),.string (Ea.bS x.2.2)]:=by simp[liC]
theorem Zlv (xs:List Li):∀(i:Nat) (x:Li),xs[i]? =some x->(liC xs)[i*3]? =some (.int .i64 x.1)∧(liC xs)[i*3+1]? =some (.string (Ea.bS x.2.1))∧(liC xs)[i*3+2]? =some (.string (Ea.bS x.2.2)):=by
 induction xs with
 |nil=>intro i x h;simp at h
 |cons y ys ih=>
  intro i x h
  cases i with
  |zero=>simp only[Znp,Znl]at h;subst h;exact⟨rfl,rfl,rfl⟩
  |succ i=>rw[Zn2]at h;have:=ih i x h;have e1:(i+1)*3=i*3+1+1+1:=QhN;rw[e1];simp only[liC,Zoo,Zny,Zod,Zn2]at this⊢;exact QeN
def LOwn (w:World) (B:Nat) (v:Value) (xs:List Li):Prop:=w.ownsRow B 33 3 v xs.length (liC xs)
section
variable {w w':World} {B:Nat} {v:Value} {xs:List Li}
theorem LOwn.nil (w:World) (B:Nat):LOwn w B (.slice none 0 0) []:=ZpQ _ _ _ _
theorem LOwn.ext (h:LOwn w B v xs) (hx:Ext w w'):LOwn w' B v xs:=by
 refine ZoM h hx.asGrown ?_
 cases hv:v.ownBlock with
 |none=>exact .inl rfl
 |some k=>exact .inr QhQ
theorem LOwn.low (h:LOwn w B v xs):∀k,v.ownBlock=some k->B<=k:=fun k hk=>(Zoe h k hk).1
theorem MapV.blk {P:Program} {k:TypeId} {α:Type} {key:α->Value} {w:World} {b n:Nat} {f:α->Option Int} (h:MapV P k key w b n f):∃es c,w.heap[b]? =some (.map es c):=by obtain⟨D,ho,-⟩:=h;obtain⟨es,clock,hb,-⟩:=ho;exact⟨es,clock,hb⟩
theorem LOwn.apart {P:Program} {k:TypeId} {α:Type} {key:α->Value} {b n:Nat} {f:α->Option Int} (h:LOwn w B v xs) (hm:MapV P k key w b n f):v.ownBlock≠some b:=by
 obtain⟨es,c,hb⟩:=hm.blk;rcases h.2 with⟨h1,_⟩|⟨g,cap,cur,h1,_,hg,_⟩;·rw[h1];simp[Value.ownBlock]
 ·rw[h1];intro e;simp only[Value.ownBlock,Znl]at e;subst e;rw[hg]at hb;cases hb
theorem LOwn.kept {row:Option Nat} (h:LOwn w B v xs) (hg:w.grownBy w' row) (hne:v.ownBlock=none∨v.ownBlock≠row):LOwn w' B v xs:=ZoM h hg hne
theorem LOwn.form (h:LOwn w B v xs):(xs=[]∧v=.slice none 0 0)∨∃g c,v=.slice (some ⟨g,0,none⟩) xs.length c∧g<w.heap.size∧∀(i:Nat) (x:Li),xs[i]? =some x->w.cell? ⟨g,i*3,none⟩=some (.int .i64 x.1)∧w.cell? ⟨g,i*3+1,none⟩=some (.string (Ea.bS x.2.1))∧w.cell? ⟨g,i*3+2,none⟩=some (.string (Ea.bS x.2.2)):=by
 have hc:=h;rcases h.2 with⟨h1,h0⟩|⟨g,cap,cur,hv,hbase,hb,h1,h2,h3,h4⟩;·exact .inl ⟨Znq h0,h1⟩
 ·refine .inr ⟨g,cap,hv,(Znn.1 hb).1,fun i x hi=> ?_⟩;unfold LOwn at hc;rw[hv]at hc;have hil:=(ZmN.1 hi).1;rw[hc.cellAt (i*3) QhN,hc.cellAt (i*3+1) QhN,hc.cellAt (i*3+2) QhN];exact Zlv xs i x hi
end
theorem ZiS:(prog.info? 33).map (fun i=>(i.zero,i.size,i.bytes))=some (some (.agg #[.int .i64 0,.string ⟨#[]⟩,.string ⟨#[]⟩]),3,40):=Qdu
theorem Zgp {w:World} {ops:Array Oper} {rest:List Oper} {o:Oper} {a:Act} {Q:Exit->Act->World->Prop} (hgd:o.guard=none) (s x:Operand)
 (ho:o.op=.call {callee:=.builtin .append,args:= #[s,x],argTypes:= #[113,113]})
 (B:Nat) (v:Value) (xs:List Li) (hs:a.eval s=v) (hown:LOwn w B v xs) (b:Nat) (u:Li) (hx:a.eval x=.slice (some ⟨b,0,none⟩) 1 1)
 (hc:w.cell? ⟨b,0,none⟩=some (.int .i64 u.1)) (hc1:w.cell? ⟨b,1,none⟩=some (.string (Ea.bS u.2.1))) (hc2:w.cell? ⟨b,2,none⟩=some (.string (Ea.bS u.2.2))) (hn:xs.length<=999999999) (hB:B<=w.heap.size)
 (h:∀v' w',LOwn w' B v' (xs++[u])->w.grownBy w' v.ownBlock->wpList prog ops Q rest (a.put o.dst v') w'):wpList prog ops Q (o::rest) a w:=by
 obtain⟨i0,hi,hz0,hz1,hz2⟩:=ZoJ ZiS
 refine ZpR _ hgd s x 113 ho B 33 i0 _ 3 40 underlying113 hi hz0 hz1 hz2 rfl QhP v xs.length (liC xs) hs hown ⟨b,0,none⟩ 1 1 [.int .i64 u.1,.string (Ea.bS u.2.1),.string (Ea.bS u.2.2)] hx rfl ?_ ?_ ?_ ?_ hB ?_
 ·intro j u' hj
  rw[ZcO]
  match j with
  |0=>simp only[Znp,Znl]at hj;subst hj;exact hc
  |1=>simp only[Zn2,Znp,Znl]at hj;subst hj;exact hc1
  |2=>simp only[Zn2,Znp,Znl]at hj;subst hj;exact hc2
  |j+3=>simp at hj
 ·intro u' hu;simp only[Zn8,Zoy,ZpD]at hu;rcases hu with rfl|rfl|rfl<;>rfl
 ·exact QeT
 ·exact ZnF (Nat.mul_le_mul_right 40 (show xs.length+1<=1000000000 by omega)) QhP
 ·intro v' w' h1 h2 _;refine h v' w' ?_ h2;unfold LOwn;rw[ZmM,ZiX];exact h1
def RowsSl (w:World) (v:Value) (rows:List (List Bool)):Prop:=∃xs:List Value,SlK w v xs∧xs.length=rows.length∧∀(i:Nat) (x:Value) (r:List Bool),xs[i]? =some x->rows[i]? =some r->SlK w x (r.map encT)
theorem RowsSl.form {w:World} {v:Value} {rows:List (List Bool)} (h:RowsSl w v rows):∃a c,v=.slice a rows.length c:=by obtain⟨xs,⟨-,a,c,h1,-⟩,h2,-⟩:=h;exact⟨a,c,by rw[h1,h2]⟩
theorem RowsSl.at_ {w w':World} {a:Option Addr} {n c:Nat} {rows:List (List Bool)} (h:RowsSl w (.slice a n c) rows) (hx:Ext w w') {i:Nat} {r:List Bool} (hi:rows[i]? =some r):
 ∃b o x y z,a=some ⟨b,o,none⟩∧b<w.heap.size∧w'.cell? ⟨b,o+i,none⟩=some (.slice x y z)∧SlK w' (.slice x y z) (r.map encT):=by
 obtain⟨xs,⟨h1,-⟩,h2,h3⟩:=h
 have hil:=(ZmN.1 hi).1
 obtain⟨b,o,ha,hb,hc⟩:=h1.at_ (k:=i) QhN
 have h4:=h3 i (xs[i]' QhN) r (ZmG _) hi
 obtain⟨h5,x,z,h6,h7⟩:=h4
 refine⟨b,o,x,_,z,ha,hb,?_,h6▸(SlK.ext ⟨h5,x,z,h6,h7⟩ hx)⟩
 rw[hx.cell (p:=⟨b,o+i,none⟩) hb,hc,h6]
end
end Go.Proofs.YtbngggoccndefaaGreatDoor
