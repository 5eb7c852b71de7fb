/-
  Laid.
-/
import Derived.Test.YtbngggoccndefaaGreatDoorRt17
set_option maxHeartbeats 8000000
set_option maxRecDepth 100000
set_option linter.all false
namespace Go.Proofs.YtbngggoccndefaaGreatDoor
open Go.Proofs.Tryz
section
namespace Ln
theorem dark_core (s:List Bool):dark s=false↔Rn.core s=[]:=by
 unfold dark;rcases Rn.row_split s with⟨h1,h2,_⟩|⟨m,h1,_,h3⟩;·refine⟨fun _=>h1,fun _=> ?_⟩;rw[h2];simp
 ·refine⟨fun h=> ?_,fun h=> ?_⟩;(·exfalso;have hm:true∈s:=(by rw[h3,h1];simp);rw[<-XQ,J8]at h;exact h ⟨true,hm,rfl⟩);·rw[h1]at h;cases h
theorem readD_rev (row:List Bool):readD row.reverse=try_ (Rn.widths row).reverse (Ea.trl row) (Ea.ldg row):=by obtain⟨_,h1,h2,h3⟩:=Rn.turned row;unfold readD;rw[h1,h2];unfold Rn.widths;rw[h3,List.map_reverse]
theorem good_le (rows:List (List Bool)):(good rows).length<=rows.length:=List.length_filterMap_le _ _
end Ln
namespace Ln
def exT:S:=[53,57,48,49,50,51,52,49,50,51,52,53,55]
def exRow:List Bool:=(Ea.enc 1 exT []).1
def tri (l:List Bool):List Bool:=l.reverse.flatMap fun b=>[b,b,b]
theorem ex_dec:decode exRow=((1,exT,[]),0):=Y1
theorem ex_read3:read (tri exRow)=((1,exT,[]),0):=Y1
theorem ex_two:read [false,false]=(zero,5):=Y1
theorem ex_vote:vote [exRow,[],tri exRow]=((1,exT,[]),2,0):=Y1
theorem ex_len:exRow.length=113:=Y1
end Ln
end
section
open Go.RowKit
theorem iJ {l:List UInt8} {r:Gs.Rule} (h:Gs.find l=some r):((l,r)∈Gs.dir∧r.2.2.2=0)∨∃k c,l=k++[c]∧(k,r)∈Gs.dir∧r.2.2.2≠0∧48<=c.toNat∧c.toNat<=r.2.2.2.toNat:=by
 have key2:l≠ []->∀r',Gs.find2 l=some r'->∃k c,l=k++[c]∧(k,r')∈Gs.dir∧r'.2.2.2≠0∧48<=c.toNat∧c.toNat<=r'.2.2.2.toNat:=by intro hne r' h';unfold Gs.find2 at h';split at h';(·rename_i r1 h1;split at h';(·simp at h');·rename_i h2;simp only[A2]at h';subst h';rw[not_or,not_or]at h2;obtain⟨h3,h4,h5⟩:=h2;refine⟨l.take (l.length-1),l.getD (l.length-1) 0,?_,PD h1,h3,?_,?_⟩;(·have e1:l.dropLast++[l.getLast hne]=l:=LX hne;have e2:l.getD (l.length-1) 0=l.getLast hne:=(by rw[A1,List.getLast_eq_getElem,P0 (by have:=F6.2 hne;omega)];rfl);rw[e2,<-List.dropLast_eq_take];exact e1.symm);(·rw[RZ]at h4;have:(48:UInt8).toNat=48:=rfl;omega);·rw[RZ]at h5;omega);·simp at h'
 unfold Gs.find at h;split at h;·rename_i r1 h1;have hne:l≠ []:=(by intro e;rw[e,qC]at h1;simp at h1);split at h;(·rename_i h0;simp only[A2]at h;subst h;exact .inl ⟨PD h1,h0⟩);·exact .inr (key2 hne _ h)
 ·split at h;(·simp at h);·rename_i hne;exact .inr (key2 hne _ h)
def Gs.sfx:List UInt8:=[48,49,50,51,52,53,54,55,56,57]
theorem iK (c:UInt8) (h1:48<=c.toNat) (h2:c.toNat<=57):c∈Gs.sfx:=by
 have e:c=UInt8.ofNat c.toNat:=by simp
 have:c.toNat=48∨c.toNat=49∨c.toNat=50∨c.toNat=51∨c.toNat=52∨c.toNat=53∨c.toNat=54∨c.toNat=55∨c.toNat=56∨c.toNat=57:=by omega
 rw[e];rcases this with h|h|h|h|h|h|h|h|h|h<;>rw[h]<;>decide
def Gs.allAi (P:List UInt8->Gs.Rule->Bool):Bool:=Gs.dir.all fun p=>if p.2.2.2.2=0 then P p.1 p.2 else Gs.sfx.all fun c=>decide (p.2.2.2.2.toNat<c.toNat) || P (p.1++[c]) p.2
theorem iL:∀p∈Gs.dir,p.2.2.2.2.toNat<=57:=Y1
theorem iM (P:List UInt8->Gs.Rule->Bool) (hP:Gs.allAi P=true) {l:List UInt8} {r:Gs.Rule} (h:Gs.find l=some r):P l r=true:=by
 unfold Gs.allAi at hP;rw[S1]at hP;rcases iJ h with⟨h1,h2⟩|⟨k,c,rfl,h1,h2,h3,h4⟩;·have:=hP _ h1;rw[G0 h2]at this;exact R2
 ·have:=hP _ h1;rw[D0 h2,S1]at this;have h5:=this c (iK c h3 (L3 h4 (iL _ h1)));simp only[F8,V1]at h5;rcases h5 with h5|h5;(·omega);·exact h5
def Gs.aiOk (l:List UInt8):Bool:=decide (2<=l.length)&&decide (l.length<=4)&&l.all (fun c=>Cd.isDig c.toNat)&&(decide (l.length<=2) || (Gs.find (l.take 2)).isNone)&&(decide (l.length<=3) || (Gs.find (l.take 3)).isNone)
theorem iN:Gs.allAi (fun l _=>Gs.aiOk l)=true:=Y1
theorem M9 {l:List UInt8} {r:Gs.Rule} (h:Gs.find l=some r):2<=l.length∧l.length<=4∧Cd.AllDig l∧(2<l.length->Gs.find (l.take 2)=none)∧(3<l.length->Gs.find (l.take 3)=none):=by have:=iM _ iN h;unfold Gs.aiOk at this;simp only[N1,F8,V1,S1,Option.isNone_iff_eq_none]at this;obtain⟨⟨⟨⟨h1,h2⟩,h3⟩,h4⟩,h5⟩:=this;refine⟨h1,h2,fun c hc=> ?_,fun h=>h4.resolve_left C0,fun h=>h5.resolve_left C0⟩;have:=h3 c hc;simp[Cd.isDig]at this;omega
theorem YS {a d:List UInt8} (h:Gs.ver a d=0):∃r,Gs.find a=some r∧Gs.verR r d=0:=by
 unfold Gs.ver at h;split at h;·simp at h
 ·rename_i r hr;exact⟨r,hr,h⟩
theorem GC {r:Gs.Rule} {d:List UInt8} (h:Gs.verR r d=0):r.2.1<=(d.length:Int)∧(d.length:Int)<=r.2.2.1∧d.all (Gs.okc r.1)=true:=by
 unfold Gs.verR at h;split at h;·simp at h
 ·split at h;(·simp at h);·rename_i h1 h2;exact⟨by omega,by omega,by simpa using h2⟩
theorem iO (k:Int) (c:UInt8) (h:Gs.okc k c=true):c≠40∧c≠41∧c.toNat<=127:=by
 have key:∀n:Fin 256,(Cd.isDig ((UInt8.ofNat n.val).toNat) || Gs.charB (UInt8.ofNat n.val))=true->UInt8.ofNat n.val≠40∧UInt8.ofNat n.val≠41∧(UInt8.ofNat n.val).toNat<=127:=Y1
 have e:UInt8.ofNat c.toNat=c:=by simp
 have:=key ⟨c.toNat,UY c⟩;dsimp only at this;rw[e]at this;apply this;unfold Gs.okc at h;cases h1:Cd.isDig c.toNat;·rw[h1]at h;simp only[Bool.false_or,N1]at h;rw[h.2];rfl
 ·rfl
theorem iP {a d:List UInt8} (h:Gs.ver a d=0):∀c∈d,c≠40∧c≠41∧c.toNat<=127:=by obtain⟨r,_,h2⟩:=YS h;obtain⟨_,_,h3⟩:=GC h2;intro c hc;exact iO _ c (S1.1 h3 c hc)
theorem iQ (l:List UInt8) (h:Cd.AllDig l):∀c∈l,c≠40∧c≠41∧c.toNat<=127:=by intro c hc;obtain⟨h1,h2⟩:=h c hc;refine⟨fun e=> ?_,fun e=> ?_,by omega⟩<;>(rw[e]at h1;simp at h1)
theorem iR {a d:List UInt8} (h:Gs.ver a d=0):∀c∈a,c≠40∧c≠41∧c.toNat<=127:=by obtain⟨r,h1,_⟩:=YS h;exact iQ a (M9 h1).2.2.1
theorem TI (c:UInt8) (l:List UInt8):(∀b∈Gs.upto c l,b≠c)∧((Gs.upto c l=l)∨∃r,l=Gs.upto c l++c::r):=by
 induction l with
 |nil=>exact⟨by simp[Gs.upto],.inl rfl⟩
 |cons b l ih=>by_cases h:b=c;(·subst h;simp[Gs.upto]);·simp only[Gs.upto,D0 h];refine⟨fun x hx=> ?_,?_⟩;(·rcases U1.1 hx with rfl|hx;(·exact h);·exact ih.1 x hx);·exact yU
theorem OC (c:UInt8) (l:List UInt8):(Gs.upto c l).length<=l.length:=by
 rcases(TI c l).2 with e|⟨r,e⟩;·rw[e];exact WP
 ·exact GD
theorem iS (n:Nat) (acc:List Gs.El):Gs.parseF n [] acc=(acc,0):=by cases n<;>rfl
theorem iT (n:Nat):∀(l:List UInt8) (acc res:List Gs.El),l.length<=n->Gs.parseF n l acc=(res,0)->∃xs,res=acc++xs∧Gs.verL xs=0∧xs.flatMap Gs.fmtE=l:=by
 induction n with
 |zero=>intro l acc res hl h;obtain rfl:=V2 (by omega:l.length=0);exact yV
 |succ n ih=>
  intro l acc res hl h
  cases l with
  |nil=>exact yV
  |cons b r=>simp only[Gs.parseF]at h;split at h;(·simp at h);·rename_i hb;split at h;(·simp at h);·rename_i hlen;obtain⟨c1,c2⟩:=TI 41 r;rcases c2 with c2|⟨r2,c2⟩;(·rw[c2]at hlen;exact absurd rfl hlen);·generalize Gs.upto 41 r=a at*;have e3:r.drop (a.length+1)=r2:=(by rw[c2,<-Y3,B5];rfl);rw[e3]at h;obtain⟨d1,d2⟩:=TI 40 r2;have d3:=OC 40 r2;generalize Gs.upto 40 r2=d at*;split at h;(·rename_i hv;simp only[A3]at h;exact absurd h.2 hv);·rename_i hv;have hv:Gs.ver a d=0:=M3 hv;have hrl:r.length=a.length+1+r2.length:=(by rw[c2];exact E1);obtain⟨xs,x1,x2,x3⟩:=ih (r2.drop d.length) _ res (by simp at hl⊢;omega) h;refine⟨(a,d)::xs,by rw[x1,G1];rfl,by simp only[Gs.verL];rw[G0 hv];exact x2,?_⟩;have hb:b=40:=M3 hb;have hd:d++r2.drop d.length=r2:=(by rcases d2 with d2|⟨r3,d2⟩;(·rw[d2];simp);·(conv=>lhs;rw[d2]);rw[B5,<-d2]);have hc:((a,d)::xs).flatMap Gs.fmtE=40::(a++41::(d++xs.flatMap Gs.fmtE)):=(by simp[Gs.fmtE]);rw[hc,x3,hd,<-c2,hb]
theorem yW {xs:List Gs.El} {s:List UInt8} (h:Gs.parse s=(xs,0)):Gs.format xs=(s,0):=by
 unfold Gs.parse at h;split at h;·simp at h
 ·split at h;(·simp at h);·rename_i h1 h2;obtain⟨ys,y1,y2,y3⟩:=iT _ s [] xs (I0 _) h;rw[E4]at y1;subst y1;have hne:xs≠ []:=fun e=>h2 (by rw[<-y3,e];rfl);unfold Gs.format Gs.verAll;rw[D0 hne,D0 (by simpa using y2),y3,D0 h1]
theorem TJ {x:Gs.El} {xs:List Gs.El} (h:Gs.verL (x::xs)=0):Gs.ver x.1 x.2=0∧Gs.verL xs=0:=by
 unfold Gs.verL at h;split at h;·rename_i h0;exact⟨h0,h⟩
 ·rename_i h0;exact absurd h h0
theorem GE (a r:List Int) (h:∀b∈a,b≠256):Gs.run (a++r)=a++Gs.run r:=by
 induction a with
 |nil=>rfl
 |cons b a ih=>simp only[P2,Gs.run,D0 (h b (B1 ..))];rw[ih (fun x hx=>h x (C1 _ hx))]
theorem OD (l:List Int):(∀b∈Gs.run l,b≠256∧b∈l)∧((Gs.run l=l)∨∃r,l=Gs.run l++256::r):=by
 induction l with
 |nil=>exact⟨by simp[Gs.run],.inl rfl⟩
 |cons b l ih=>by_cases h:b=256;(·subst h;simp[Gs.run]);·simp only[Gs.run,D0 h];refine⟨fun x hx=> ?_,?_⟩;(·rcases U1.1 hx with rfl|hx;(·exact⟨h,B1 ..⟩);·exact⟨(ih.1 x hx).1,C1 _ (ih.1 x hx).2⟩);·exact yU
theorem yX (l:List Int):(Gs.run l).length<=l.length:=by
 rcases(OD l).2 with e|⟨r,e⟩;·rw[e];exact WP
 ·exact GD
theorem iU (c:UInt8):Gs.byte (c.toNat:Int)=c:=by have:=UY c;unfold Gs.byte;rw[GF C0 C0,R6];simp
theorem GG (l:List UInt8):Gs.text (Gs.ints l)=l:=by
 unfold Gs.text Gs.ints;rw[D6];conv=>rhs;rw[<-XD l]
 exact A8 fun c _=>iU c
theorem iV (a b:List Int):Gs.text (a++b)=Gs.text a++Gs.text b:=B4
theorem yY (a b:List UInt8):Gs.ints (a++b)=Gs.ints a++Gs.ints b:=B4
theorem ZH (a:List UInt8):(Gs.ints a).length=a.length:=N0 _
theorem WQ (a:List Int):(Gs.text a).length=a.length:=N0 _
theorem OE (l:List UInt8):∀b∈Gs.ints l,b≠256:=by intro b hb;obtain⟨c,_,rfl⟩:=J3.1 hb;have:=UY c;omega
theorem iW (l:List Int) (h:∀b∈l,0<=b∧b<=127):Gs.ints (Gs.text l)=l:=by
 unfold Gs.text Gs.ints;rw[D6];conv=>rhs;rw[<-XD l]
 refine A8 fun c hc=> ?_;obtain⟨h1,h2⟩:=h c hc;simp only[Function.comp,Gs.byte,id];rw[GF h1 C0];exact yZ
theorem GH {a t:List UInt8} {r:Gs.Rule} (h:Gs.find a=some r):Gs.pre (a++t)=some (a,r):=by
 obtain⟨h1,h2,_,h4,h5⟩:=M9 h;have ta:∀n,n<=a.length->(a++t).take n=a.take n:=fun n hn=>X9 hn;have lt:∀n,n<=a.length->n<=(a++t).length:=fun n hn=>by rw[O0];omega
 have hit:Gs.preN (a++t) a.length=some (a,r):=by unfold Gs.preN;rw[G0 (lt _ (I0 _)),ta _ (I0 _),E5,h];rfl
 have miss:∀n,n<a.length->Gs.find (a.take n)=none->Gs.preN (a++t) n=none:=by intro n hn hf;unfold Gs.preN;rw[G0 (lt _ C0),ta _ C0,hf];rfl
 unfold Gs.pre;have hl:a.length=2∨a.length=3∨a.length=4:=by omega
 rcases hl with e|e|e;·rw[e]at hit;rw[hit];rfl
 ·rw[e]at hit;rw[miss 2 C0 (h4 C0),hit];rfl
 ·rw[e]at hit;rw[miss 2 C0 (h4 C0),miss 3 C0 (h5 C0),hit];rfl
theorem vA {l a:List UInt8} {r:Gs.Rule} (h:Gs.pre l=some (a,r)):Gs.find a=some r∧l.take a.length=a∧a.length<=l.length:=by
 have key:∀n,Gs.preN l n=some (a,r)->Gs.find a=some r∧l.take a.length=a∧a.length<=l.length:=by intro n hn;unfold Gs.preN at hn;split at hn;(·rename_i hle;rw[XN]at hn;obtain⟨r',h1,h2⟩:=hn;simp only[A3]at h2;obtain⟨rfl,rfl⟩:=h2;refine⟨h1,?_,by rw[L1];omega⟩;rw[L1,H6 hle]);·simp at hn
 unfold Gs.pre at h;rw[Option.or_eq_some_iff,Option.or_eq_some_iff]at h;rcases h with h|⟨_,h|⟨_,h⟩⟩;all_goals exact key _ h
theorem OF {xs:List Gs.El} (hv:Gs.verL xs=0) (h:xs≠ []):Gs.chG xs≠ []:=by
 cases xs with
 |nil=>exact absurd rfl h
 |cons x xs=>obtain⟨h0,_⟩:=TJ hv;obtain⟨r,h1,_⟩:=YS h0;have:=(M9 h1).1;intro e;have:=R0 List.length e;simp only[Gs.chG,O0,ZH,U2]at this;omega
theorem vB (n:Nat) (acc:List Gs.El):Gs.fromF n [] acc=(acc,0):=by cases n<;>rfl
theorem iX (x:Gs.El) (xs:List Gs.El) (hv:Gs.verL (x::xs)=0):∃k,Gs.next (Gs.chG (x::xs))=(x,k,0)∧(Gs.chG (x::xs)).drop k=Gs.chG xs∧0<k∧k<=(Gs.chG (x::xs)).length:=by
 obtain⟨a,d⟩:=x;obtain⟨h0,h00⟩:=TJ hv;dsimp only at h0;obtain⟨r,h1,h2⟩:=YS h0;obtain⟨ro1,ro2,ro3,ro4,ro5,ro6,ro7,ro8⟩:=UP h1;obtain⟨l1,l2,l3⟩:=GC h2;have hal:=(M9 h1).1;have hfx:Gs.fixed a=Gs.isFix r:=by unfold Gs.fixed;rw[h1]
 simp only[Gs.chG];rw[hfx];have hpos:∀t:List Int,(Gs.ints (a++d)++t).length≠0:=fun t=>by rw[O0,ZH,O0];omega
 cases hf:Gs.isFix r
 ·cases xs with
  |nil=>have e:Gs.ints (a++d)++((if(false || ([]:List Gs.El).isEmpty)=true then []else [256])++Gs.chG [])=Gs.ints (a++d):=(by simp[Gs.chG]);rw[e];have er:Gs.run (Gs.ints (a++d))=Gs.ints (a++d):=(by have:=GE (Gs.ints (a++d)) [] (OE _);simpa[Gs.run]using this);refine⟨(Gs.ints (a++d)).length,?_,by simp[Gs.chG],by rw[ZH,O0];omega,I0 _⟩;unfold Gs.next;rw[er,D0 (by have:=hpos [];simpa using this),GG,GH h1];dsimp only;rw[D0 JY,B5,D0 W8,D0 C0,Nat.min_eq_right C0]
  |cons y ys=>have e:Gs.ints (a++d)++((if(false || (y::ys).isEmpty)=true then []else [256])++Gs.chG (y::ys))=Gs.ints (a++d)++(256::Gs.chG (y::ys)):=L0;rw[e];have er:Gs.run (Gs.ints (a++d)++(256::Gs.chG (y::ys)))=Gs.ints (a++d):=(by rw[GE _ _ (OE _)];simp[Gs.run]);have hne:(Gs.chG (y::ys)).length≠0:=fun e=>OF h00 L0 (V2 e);refine⟨(Gs.ints (a++d)).length+1,?_,by rw[<-Y3,B5];rfl,by omega,by rw[O0,S0];omega⟩;unfold Gs.next;rw[er,D0 (by have:=hpos [];simpa using this),GG,GH h1];dsimp only;have hl:(Gs.ints (a++d)++256::Gs.chG (y::ys)).length=(Gs.ints (a++d)).length+1+(Gs.chG (y::ys)).length:=(by rw[O0,S0];omega);rw[D0 JY,B5,D0 W8,hl,D0 C0,H6 C0]
 ·have e:Gs.ints (a++d)++((if(true || xs.isEmpty)=true then []else [256])++Gs.chG xs)=Gs.ints (a++d)++Gs.chG xs:=L0;rw[e];have er:Gs.run (Gs.ints (a++d)++Gs.chG xs)=Gs.ints (a++d)++Gs.run (Gs.chG xs):=GE _ _ (OE _);have hfe:r.2.1=r.2.2.1:=(by simpa[Gs.isFix]using hf);have hdl:r.2.2.1.toNat=d.length:=C0;refine⟨a.length+d.length,?_,?_,by omega,by rw[O0,ZH,O0];omega⟩;(·unfold Gs.next;rw[er,D0 (hpos _),iV,GG,G1,GH h1];dsimp only;rw[hf,G0 rfl,hdl,D0 (by rw[O0,ZH,O0];omega),B5,P6,D0 W8]);·rw[show a.length+d.length=(Gs.ints (a++d)).length by rw[ZH,O0],B5]
theorem iY (xs:List Gs.El):∀(n:Nat) (acc:List Gs.El),Gs.verL xs=0->(Gs.chG xs).length<=n->Gs.fromF n (Gs.chG xs) acc=(acc++xs,0):=by
 induction xs with
 |nil=>intro n acc _ _;simp only[Gs.chG];rw[vB,B3]
 |cons x xs ih=>intro n acc hv hn;obtain⟨k,k1,k2,k3,k4⟩:=iX x xs hv;obtain⟨m,rfl⟩:∃m,n=m+1:=⟨n-1,by omega⟩;have hne:=OF hv L0;rw[Gs.fromF,D0 hne,k1,D0 L0];dsimp only;rw[k2,ih m _ (TJ hv).2 (by rw[<-k2,L2];omega),G1];rfl
theorem vC {c:List Int} (h:c.all Gs.okCh=true):∀b∈Gs.run c,0<=b∧b<=127:=by intro b hb;obtain⟨h1,h2⟩:=(OD c).1 b hb;have:=S1.1 h b h2;simp[Gs.okCh]at this;omega
theorem GI {c:List Int} {x:Gs.El} {k:Nat} (hc:c.all Gs.okCh=true) (h:Gs.next c=(x,k,0)):
 Gs.ver x.1 x.2=0∧0<k∧k<=c.length∧c=Gs.ints (x.1++x.2)++((if Gs.fixed x.1 || (c.drop k).isEmpty then []else [256])++c.drop k):=by
 have hrt:=vC hc
 obtain⟨_,rc⟩:=OD c
 have rl:=yX c
 unfold Gs.next at h
 split at h
 ·simp at h
 ·rename_i hpos;split at h;(·simp at h)
  ·rename_i a r hp;obtain⟨p1,p2,p3⟩:=vA hp;obtain⟨ro1,ro2,ro3,ro4,ro5,ro6,ro7,ro8⟩:=UP p1;have hal:=(M9 p1).1;have hfx:Gs.fixed a=Gs.isFix r:=(by unfold Gs.fixed;rw[p1]);rw[WQ]at p3;have hit:Gs.ints (Gs.text (Gs.run c))=Gs.run c:=iW _ hrt;have hcat:a++(Gs.text (Gs.run c)).drop a.length=Gs.text (Gs.run c):=(by(conv=>lhs;rw[<-p2]);rw[L1,WQ,H6 p3,C6]);split at h;(·rename_i hf;split at h;(·simp at h);·rename_i hlen;split at h;(·exact vD);·rename_i hv;simp only[A3,F5]at h;obtain⟨rfl,rfl⟩:=h;dsimp only;refine⟨M3 hv,by omega,by omega,?_⟩;rw[hfx,hf];simp only[Bool.true_or,R4,E4];have e1:a++((Gs.text (Gs.run c)).drop a.length).take r.2.2.1.toNat=(Gs.text (Gs.run c)).take (a.length+r.2.2.1.toNat):=(by rw[List.take_add,p2]);have e2:Gs.ints ((Gs.text (Gs.run c)).take (a.length+r.2.2.1.toNat))=(Gs.run c).take (a.length+r.2.2.1.toNat):=(by unfold Gs.ints at hit⊢;rw[G8,hit]);rw[e1,e2];have e3:(Gs.run c).take (a.length+r.2.2.1.toNat)=c.take (a.length+r.2.2.1.toNat):=(by rcases rc with e|⟨q,e⟩;(·rw[e]);·(conv=>rhs;rw[e]);rw[X9 C0]);rw[e3,C6])
   ·rename_i hf;split at h;(·exact vD)
    ·rename_i hv;split at h;(·simp at h)
     ·rename_i hend;simp only[A3,F5]at h;obtain⟨rfl,rfl⟩:=h;dsimp only;refine⟨M3 hv,by omega,by omega,?_⟩;rw[hfx,hcat,hit];have hf':Gs.isFix r=false:=(by simpa using hf);rw[hf'];rcases rc with e|⟨q,e⟩;(·rw[e];have:min (c.length+1) c.length=c.length:=C0;rw[this,M6];simp)
      ·have hl:c.length=(Gs.run c).length+1+q.length:=GD
       have hq:c.drop (min ((Gs.run c).length+1) c.length)=q:=by rw[H6 C0];have h5:(Gs.run c++256::q).drop ((Gs.run c).length+1)=q:=(by rw[<-Y3,B5];rfl);exact(R0 (List.drop ((Gs.run c).length+1)) e).trans h5
       rw[hq]
       cases q with
       |nil=>simp at hl;omega
       |cons y ys=>simp;exact e
theorem iZ (n:Nat):∀(c:List Int) (acc res:List Gs.El),c.all Gs.okCh=true->c.length<=n->Gs.fromF n c acc=(res,0)->∃xs,res=acc++xs∧Gs.verL xs=0∧Gs.chG xs=c:=by
 induction n with
 |zero=>intro c acc res _ hl h;obtain rfl:=V2 (by omega:c.length=0);simp only[Gs.fromF,A3,F5]at h;exact⟨[],by simp[h],rfl,rfl⟩
 |succ n ih=>
  intro c acc res hc hl h;rw[Gs.fromF]at h;split at h;(·rename_i h0;simp only[A3,F5]at h;exact⟨[],by simp[h],rfl,by rw[h0];rfl⟩)
  ·rename_i h0;split at h;(·exact TK)
   ·rename_i h1;have h1:=M3 h1;generalize hn:Gs.next c=nx at*;obtain⟨x,k,e⟩:=nx;dsimp only at h h1;subst h1;obtain⟨v0,k0,k1,hcat⟩:=GI hc hn;obtain⟨xs,x1,x2,x3⟩:=ih (c.drop k) _ res (S1.2 fun b hb=>S1.1 hc b (X7 hb)) E7 h;refine⟨x::xs,by rw[x1,G1];rfl,by simp only[Gs.verL];rw[G0 v0];exact x2,?_⟩;have hemp:xs.isEmpty=(c.drop k).isEmpty:=by
     cases xs with
     |nil=>rw[<-x3];rfl
     |cons y ys=>
      have:=OF x2 L0
      rw[x3]at this
      cases hd:c.drop k with
      |nil=>exact absurd hd this
      |cons _ _=>rfl
    simp only[Gs.chG];rw[hemp,x3];exact hcat.symm
theorem vE {xs:List Gs.El} (hv:Gs.verL xs=0):(256::Gs.chG xs).all Gs.okCh=true:=by
 rw[PZ];have:(Gs.chG xs).all Gs.okCh=true:=by
  induction xs with
  |nil=>rfl
  |cons x xs ih=>obtain⟨h0,h1⟩:=TJ hv;simp only[Gs.chG,GJ];rw[ih h1];have h2:∀l:List UInt8,(∀c∈l,c≠40∧c≠41∧c.toNat<=127)->(Gs.ints l).all Gs.okCh=true:=(by intro l hl;rw[S1];intro b hb;obtain⟨c,hc,rfl⟩:=J3.1 hb;have:=(hl c hc).2.2;simp[Gs.okCh];omega);rw[yY,GJ,h2 _ (iR h0),h2 _ (iP h0)];split<;>rfl
 rw[this];rfl
theorem lA {xs:List Gs.El} {c:List Int} (h:Gs.chars xs=(c,0)):Gs.frChars c=(xs,0):=by
 unfold Gs.chars at h;split at h;·exact TK
 ·split at h;(·simp at h);·rename_i h1 h2;simp only[A3,F5]at h;subst h;have h1:=M3 h1;unfold Gs.verAll at h1;split at h1;(·simp at h1);·rename_i h3;have hne:=OF h1 h3;unfold Gs.frChars;rw[D0 h2,D0 (by rw[vE h1];exact Bool.noConfusion),D0 L0,D0 (by rw[S0];intro e;exact hne (V2 C0))];show Gs.fromF _ (Gs.chG xs) []=_;rw[iY xs _ [] h1 (by rw[S0];omega)];rfl
theorem lB {xs:List Gs.El} {c:List Int} (h:Gs.frChars c=(xs,0)):Gs.chars xs=(c,0):=by
 unfold Gs.frChars at h;split at h;·simp at h
 ·split at h;(·simp at h)
  ·split at h;(·simp at h)
   ·split at h;(·simp at h)
    ·rename_i h1 h2 h3 h4
     cases c with
     |nil=>simp at h3
     |cons b c=>have h3:b=256:=M3 h3;subst h3;have h2:(256::c).all Gs.okCh=true:=F4;rw[PZ,N1]at h2;obtain⟨ys,y1,y2,y3⟩:=iZ _ c [] xs h2.2 (by rw[S0];omega) h;rw[E4]at y1;subst y1;have hne:xs≠ []:=fun e=>h4 (by rw[<-y3,e];rfl);unfold Gs.chars Gs.verAll;rw[D0 hne,D0 (by simpa using y2),y3,D0 h1]
end
end Go.Proofs.YtbngggoccndefaaGreatDoor
