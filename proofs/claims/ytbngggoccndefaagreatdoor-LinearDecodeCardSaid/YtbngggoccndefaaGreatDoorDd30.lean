/-
  Laid together.
-/
import Derived.Test.YtbngggoccndefaaGreatDoorDd29
set_option maxHeartbeats 16000000
set_option maxRecDepth 100000
set_option linter.unusedVariables false
set_option linter.unusedSimpArgs false
set_option linter.ambiguousOpen false
namespace Go.Proofs.YtbngggoccndefaaGreatDoor
open Go.Proofs.Tryz
section
open Go.RowKit
theorem ZlU (bits:List Bool) (h:4<=bits.length):((Tw.elems bits).take 4=[110,110,110,110])=((bits.getD 0 false || (bits.getD 1 false || (bits.getD 2 false || bits.getD 3 false)))=false):=by
 match bits,h with
 |b0::b1::b2::b3::r,_=>cases b0<;>cases b1<;>cases b2<;>cases b3<;>simp[Tw.elems]
theorem Zmy (bits:List Bool) (m m1 m2:Nat) (h1:m1=m+1) (h2:m2=m+2) (h:bits.length=m+3):((Tw.elems bits).drop m=[119,110,110])=((!bits.getD m false || (bits.getD m1 false || bits.getD m2 false))=false):=by
 subst h1 h2;have e:bits.drop m=[bits.getD m false,bits.getD (m+1) false,bits.getD (m+2) false]:=by
  apply ZoK;(·exact Qcm)
  ·intro i g1 g2
   simp at g2
   rw[Zq5]
   match i,g2 with
   |0,_=>simp[ZmL,ZmG (show m<bits.length by omega)]
   |1,_=>simp[ZmL,ZmG (show m+1<bits.length by omega)]
   |2,_=>simp[ZmL,ZmG (show m+2<bits.length by omega)]
 unfold Tw.elems;rw[<-Zn6,e];cases bits.getD m false<;>cases bits.getD (m+1) false<;>cases bits.getD (m+2) false<;>simp
theorem ten (bits:List Bool) (t:Nat) (h:t+10<=bits.length):(bits.drop t).take 10=(List.range 10).map fun m=>bits.getD (t+m) false:=by
 apply ZoK;·exact Qcm
 ·intro i g1 g2;simp at g2;rw[List.getElem_take,Zq5,ZnO,List.getElem_range,ZmL,ZmG (show t+i<bits.length by omega)];rfl
def evB (bits:List Bool) (t k:Nat):List Bool:=(List.range k).map fun m=>bits.getD (t+2*m) false
def odB (bits:List Bool) (t k:Nat):List Bool:=(List.range k).map fun m=>bits.getD (t+2*m+1) false
theorem Zkm (bits:List Bool) (t k:Nat):evB bits t (k+1)=evB bits t k++[bits.getD (t+2*k) false]:=by unfold evB;exact Qew
theorem Zk9 (bits:List Bool) (t k:Nat):odB bits t (k+1)=odB bits t k++[bits.getD (t+2*k+1) false]:=by unfold odB;exact Qew
theorem Zkl (bits:List Bool) (i:Nat) (h:4+10*i+10<=bits.length):Tw.evens (Tw.pairAt (Tw.elems bits) i)=Tw.elems (evB bits (4+10*i) 5):=by unfold Tw.pairAt;rw[Zbg,ten bits _ h];rfl
theorem Zk8 (bits:List Bool) (i:Nat) (h:4+10*i+10<=bits.length):Tw.odds (Tw.pairAt (Tw.elems bits) i)=Tw.elems (odB bits (4+10*i) 5):=by unfold Tw.pairAt;rw[Zbg,ten bits _ h];rfl
theorem Zix:∀i:Fin 10,(((Tw.cItf.getD i.val 0).toNat:Int)==0)=false:=by decide
theorem Ze6 (p:List UInt8):(((Tw.chr Tw.cItf Tw.pItf 5 p).1.toNat:Int)==0)= !(Tw.chr Tw.cItf Tw.pItf 5 p).2:=by
 rcases Zam Tw.cItf Tw.pItf 5 p with e|⟨i,hi,_,e⟩;·rw[e];rfl
 ·rw[e];exact Zix ⟨i,hi⟩
theorem ZdJ (f:Nat->List UInt8) (i:Nat):(List.range (i+1)).flatMap f=(List.range i).flatMap f++f i:=by rw[Zqi,ZoF];simp
theorem Zbv {w:World} {ops:Array Oper} {rest:List Oper} {o:Oper} {a:Act} {Q:Exit->Act->World->Prop} (hgd:o.guard=none) (s x:Operand)
 (ho:o.op=.call {callee:=.builtin .append,args:= #[s,x],argTypes:= #[26,26]})
 (B:Nat) (v:Value) (l:List Bool) (hs:a.eval s=v) (hown:Own 4 w B v (l.map encT)) (b:Nat) (u:Bool) (hx:a.eval x=.slice (some ⟨b,0,none⟩) 1 1)
 (hc:w.cell? ⟨b,0,none⟩=some (encT u)) (hn:l.length<=999999999) (hB:B<=w.heap.size)
 (h:∀v' w',Own 4 w' B v' ((l++[u]).map encT)->w.grownBy w' v.ownBlock->(v'.ownBlock=v.ownBlock∨v'.ownBlock=some w.heap.size)->wpList prog ops Q rest (a.put o.dst v') w'):wpList prog ops Q (o::rest) a w:=
 ZQ hgd s x 26 4 (.bool false) 1 ho underlying26 ZaE rfl QhP B v _ hs hown b 0 1 1 [encT u] hx rfl
  (fun j u' hj=>by
   match j with
   |0=>simp only[Znp,Znl]at hj;subst hj;exact hc
   |j+1=>simp at hj)
  (fun u' hu=>by simp only[Znz]at hu;subst hu;rfl) QhR hB
  (fun v' w' h1 h2 h3=>h v' w' Qin h2 h3)
theorem ZgR (v:Value) (bits:List Bool) (w:World) (B h:Nat) (hv:Own 4 w B v (bits.map encT)) (hh:h<=1000) (hn:bits.length=10*h+7) (hh1:1<=h):
 Calls prog 150 #[v] w (DecR (Tw.readItf (Tw.elems bits)) w):=by
 obtain⟨g,cap,rfl,hlc,hcm,hg,hcell⟩:=hv.open_ QhR
 rw[ZmI]at hlc hcell⊢
 have HC:Hid (∀w',Ext w w'->∀i,i<bits.length->w'.cell? ⟨g,i,none⟩=some (.bool (bits.getD i false))):=ZmE (fun w' hx i hi=>by rw[hx.cell (p:=⟨g,i,none⟩) hg,hcell i hi,Znm,ZmL,ZmG hi];rfl)
 have HT:=ZmE (Tw.readItf.eq_1 (Tw.elems bits))
 rw[Zan,show(bits.length-7)/10=h by omega]at HT
 have HS4:=ZmE (ZlU bits QhN)
 have h0:=HC.out w (Ext.refl _) 0 QhN
 have h1:=HC.out w (Ext.refl _) 1 QhN
 have h2:=HC.out w (Ext.refl _) 2 QhN
 have h3:=HC.out w (Ext.refl _) 3 QhN
 have hl17:17<=bits.length:=by omega
 clear hcell hv
 generalize Tw.readItf (Tw.elems bits)=res at*
 generalize bits.getD 0 false=b0 at*
 generalize bits.getD 1 false=b1 at*
 generalize bits.getD 2 false=b2 at*
 generalize bits.getD 3 false=b3 at*
 by_cases hst:(b0 || (b1 || (b2 || b3)))=true
 ·have HR:Hid (res=([],19)):=ZmE (by rw[HT.out,ZmH (by intro e;rw[HS4.out,hst]at e;exact Bool.noConfusion e)]);clear HT HS4;cases b0;(·cases b1;(·cases b2;(·cases b3;(·exact absurd hst Bool.noConfusion);·exact QgP);·exact QgP);·exact QgP);·exact QgP
 have hst':(b0 || (b1 || (b2 || b3)))=false:=by simpa using hst
 rw[ZmF (by rw[Ne,ZnH,HS4.out];exact hst')]at HT
 obtain⟨rfl,rfl,rfl,rfl⟩:b0=false∧b1=false∧b2=false∧b3=false:=by cases b0<;>cases b1<;>cases b2<;>cases b3<;>first|exact⟨rfl,rfl,rfl,rfl⟩|exact absurd hst' Bool.noConfusion
 have HN:=ZmE hn
 clear hst hst' HS4 hn hlc hcm
 go_enter func150,ntmps150
 go_wp2
 clear h0 h1 h2 h3
 go_loopw [5,4] (fun i s wr=>∃(j t:Nat) (G:ByteArray),j<=h∧t=4+10*j∧i=.int .i64 (t:Int)∧s=.string G∧Hid (G.data.toList=(List.range j).flatMap fun i=>[(Tw.digA (Tw.elems bits) i).1,(Tw.digB (Tw.elems bits) i).1])∧G.size=2*j∧Hid (∀i,i<j->Tw.pairOk (Tw.elems bits) i=true)∧Ext w wr) (fun i _ _=>10*h+20-(intOf i).toNat)
 case atStart=>exact⟨0,4,⟨#[]⟩,ZmP _,rfl,rfl,rfl,ZmE rfl,rfl,ZmE (fun i h=>by omega),Ext.refl _⟩
 case round=>obtain⟨j,t,G,hj,ht,rfl,rfl,HG,hGs,HB,hxr⟩:=hrel;have hn:=HN.out;have hlb:bits.length<=20000:=QhN;have htb:t<=20000:=QhN;by_cases hlt:j<h;(·have dlt:(t:Int)+10<(bits.length:Int):=QhN;have HEV:=ZmE (Zkl bits j QhN);have HOD:=ZmE (Zk8 bits j QhN);rw[<-ht]at HEV HOD;have ht10:t+10<=bits.length:=QhN;have HJ:Hid (t=4+10*j):=ZmE ht;clear ht hn;have HSN:Hid (∀H:ByteArray,H.data.toList=G.data.toList++[(Tw.digA (Tw.elems bits) j).1,(Tw.digB (Tw.elems bits) j).1]->H.data.toList=(List.range (j+1)).flatMap fun i=>[(Tw.digA (Tw.elems bits) i).1,(Tw.digB (Tw.elems bits) i).1]):=ZmE (fun H hH=>by rw[hH,HG.out,ZdJ]);have HPO:Hid (Tw.pairOk (Tw.elems bits) j=((Tw.digA (Tw.elems bits) j).2&&(Tw.digB (Tw.elems bits) j).2)):=ZmE rfl;have HBN:Hid (Tw.pairOk (Tw.elems bits) j=true->Hid (∀i,i<j+1->Tw.pairOk (Tw.elems bits) i=true)):=ZmE (fun h=>ZmE (fun i hi=>by rcases ZoP (ZoY hi)with h1|rfl;(·exact HB.out i h1);·exact h));have HBAD:Hid (Tw.pairOk (Tw.elems bits) j=false->res=([],18)):=ZmE (fun hf=>by rw[HT.out,ZmH];rw[ZoE];exact⟨j,by simpa using hlt,by rw[hf];exact Bool.noConfusion⟩);have HDA:Hid (Tw.digA (Tw.elems bits) j=Tw.chrK 2 (Tw.elems (evB bits t 5))):=ZmE (by unfold Tw.digA;rw[HEV.out];rfl);have HDB:Hid (Tw.digB (Tw.elems bits) j=Tw.chrK 2 (Tw.elems (odB bits t 5))):=ZmE (by unfold Tw.digB;rw[HOD.out];rfl);have dza:(((Tw.digA (Tw.elems bits) j).1.toNat:Int)==0)= !(Tw.digA (Tw.elems bits) j).2:=Ze6 _;have dzb:(((Tw.digB (Tw.elems bits) j).1.toNat:Int)==0)= !(Tw.digB (Tw.elems bits) j).2:=Ze6 _;have hle5:(evB bits t 5).length<=1000:=(by simp[evB]);have hlo5:(odB bits t 5).length<=1000:=(by simp[odB]);have HL5:=ZmE hle5;have HM5:=ZmE hlo5;clear HEV HOD HT HB HG hle5 hlo5;generalize Tw.digA (Tw.elems bits) j=DA at*;generalize Tw.digB (Tw.elems bits) j=DB at*;obtain⟨da,fa⟩:=DA;obtain⟨db,fb⟩:=DB;dsimp only at dza dzb;obtain⟨wo,rfl⟩:∃wo:World,wo=wr:=⟨_,rfl⟩;go_wp2;go_loopw [8,6,7] (fun i ca cb wq=>∃k:Nat,k<=5∧i=.int .i64 (k:Int)∧Own 4 wq wo.heap.size ca ((evB bits t k).map encT)∧Own 4 wq wo.heap.size cb ((odB bits t k).map encT)∧Apart ca cb∧Ext wo wq) (fun i _ _ _=>5-(intOf i).toNat);(case atStart=>exact QeQ);case round=>obtain⟨k,hk,rfl,howa,howb,hap,hxq⟩:=hrel;by_cases hk5:k<5;(·obtain⟨u,hu⟩:∃u,u=t+2*k:=⟨_,rfl⟩;obtain⟨u1,hu1⟩:∃u1,u1=u+1:=⟨_,rfl⟩;have hui:(t:Int)+2*(k:Int)=(u:Int):=QhN;have hu1i:(u:Int)+1=(u1:Int):=QhN;have hul:u<bits.length:=QhN;have hu1l:u1<bits.length:=QhN;have hcu:=HC.out wr (hxr.trans hxq) u hul;have HES:=ZmE (Zkm bits t k);have HOS:=ZmE (Zk9 bits t k);rw[<-hu]at HES HOS;rw[<-hu1]at HOS;have hga:(evB bits t k).length<=5:=(by simp[evB];omega);have hgb:(odB bits t k).length<=5:=(by simp[odB];omega);have HCU:=ZmE (fun w' hx=>HC.out w' hx u1 hu1l);have hwo:=hxq.size;generalize evB bits t k=ga at*;generalize odB bits t k=gb at*;generalize bits.getD u false=xa at*;generalize bits.getD u1 false=xb at*;clear hu hu1;go_wp2_with (at_builtin;refine Zbv rfl _ _ rfl wo.heap.size _ ga rfl (howa.alloc _) _ xa rfl ?c1 ?c2 ?c3 ?_);(case c1=>exact QeO);(case c2=>omega);(case c3=>exact Qfp);intro v5 w5 how5 hg5 hat5;have howb5:=(howb.alloc _).beside hg5 hap;have hap5:=Apart.grow hap (howb.alloc (.cells #[.bool xa] 4)) (wr.heap.size+1) QhQ hat5;have hx5:=(hxq.alloc _).ofGrown hg5 howa.low;have hcu1:=HCU.out w5 (hxr.trans hx5);have hwo5:=hx5.size;replace how5:Own 4 w5 wo.heap.size v5 ((ga++[xa]).map encT):=(by rw[Zn1];exact how5);clear howa howb hap hg5 hat5 hxq hcu;go_wp2_with (at_builtin;refine Zbv rfl _ _ rfl wo.heap.size _ gb rfl (howb5.alloc _) _ xb rfl ?d1 ?d2 ?d3 ?_);(case d1=>exact QeO);(case d2=>omega);(case d3=>exact Qfp);intro v6 w6 how6 hg6 hat6;have howa6:=(how5.alloc _).beside hg6 hap5.symm;have hap6:=(Apart.grow hap5.symm (how5.alloc (.cells #[.bool xb] 4)) (w5.heap.size+1) QhQ hat6).symm;have hx6:=(hx5.alloc _).ofGrown hg6 howb5.low;clear how5 howb5 hap5 hg6 hat6 hx5 hcu1;go_wp2;go_roundw;(case rel=>exact⟨k+1,by omega,by go_num,by rw[HES.out];exact howa6,by rw[HOS.out,Zn1];exact how6,hap6,hx6⟩);case measure=>exact Q8);·obtain rfl:k=5:=QhN;have HFA:=ZmE (Zh2 _ _ wr howa.sl HL5.out);have HFB:=ZmE (fun w' hx=>Zh2 _ _ w' (howb.ext hx).sl HM5.out);rw[<-HDA.out]at HFA;rw[<-HDB.out]at HFB;clear howa howb hap hk hk5;dsimp only at HFA HFB;cases fa;(·exact Qca);·cases fb;(·exact Qca);·have hcv:=Zj1;have hsz:(strOfNums [(da.toNat:Int),(db.toNat:Int)]).size=2:=strOfNums_size _;have HAA:Hid ((G++strOfNums [(da.toNat:Int),(db.toNat:Int)]).data.toList=G.data.toList++[da,db]):=ZmE Qjo;have HAS:Hid ((G++strOfNums [(da.toNat:Int),(db.toNat:Int)]).size=2*(j+1)):=ZmE (by rw[Zc HAA.out,ZmM,Zb,hGs];simp;omega);have HBO:=HBN.out (by rw[HPO.out];rfl);go_wp2_with fail;refine HFA.out.mono ?_;rintro e w2 ⟨rfl,hx2⟩;go_wp2_with fail;refine(HFB.out _ hx2).mono ?_;rintro e w3 ⟨rfl,hx3⟩;go_wp2;go_roundw;(case rel=>exact⟨j+1,t+10,G++strOfNums [(da.toNat:Int),(db.toNat:Int)],by omega,by have:=HJ.out;omega,by go_num,rfl,ZmE (HSN.out _ HAA.out),HAS.out,HBO,by exact(((hxr.trans hxq).trans hx2).trans hx3).alloc _⟩);case measure=>simp[intOf];have:=HJ.out;omega);·obtain rfl:j=h:=QhN;have hall:¬((List.range j).all (Tw.pairOk (Tw.elems bits))=false):=(by rw[Zpj,Znd];intro i hi;exact HB.out i Qiv);rw[ZmF hall,<-HG.out]at HT;obtain⟨m1,hm1⟩:∃m1,m1=t+1:=⟨_,rfl⟩;obtain⟨m2,hm2⟩:∃m2,m2=t+2:=⟨_,rfl⟩;have hE3:=Zmy bits t m1 m2 hm1 hm2 QhN;rw[show bits.length-3=t by omega]at HT;have hti:(bits.length:Int)-3=(t:Int):=QhN;have h1i:(t:Int)+1=(m1:Int):=QhN;have h2i:(t:Int)+2=(m2:Int):=QhN;have htl:t<bits.length:=QhN;have h1l:m1<bits.length:=QhN;have h2l:m2<bits.length:=QhN;have c0:=HC.out wr hxr t htl;have c1:=HC.out wr hxr m1 h1l;have c2:=HC.out wr hxr m2 h2l;have dlt:(bits.length:Int)<=(t:Int)+10:=QhN;have HE3:=ZmE hE3;generalize bits.getD t false=x0 at*;generalize bits.getD m1 false=x1 at*;generalize bits.getD m2 false=x2 at*;clear hj hlt hall HB HG hE3 hm1 hm2 ht hn;have key:∀y,(!x0 || (x1 || x2))=y->Hid (res=if y then([],20)else(G.data.toList,0)):=fun y hy=>ZmE (by cases y;(·rw[HT.out,ZmF (by rw[Ne,ZnH,HE3.out];exact hy)];rfl);·rw[HT.out,ZmH (by intro e;rw[HE3.out,hy]at e;exact Bool.noConfusion e)];rfl);clear HT HE3;cases x0;(·exact Qhg);·cases x1;(·cases x2;(·have HR:=key false Qh6;clear key;go_wp2;go_ret2;exact⟨by rw[HR.out];exact Z8 rfl rfl,hxr⟩);·exact Qhg);·exact Qhg
theorem Zjv (cs ps edge inner:List UInt8) (z:Nat) (e:List UInt8) (n:Nat) (hn:n=(e.length+1)/(z+1)) (h:(Tw.read cs ps edge inner z e).2=0):
 (Tw.read cs ps edge inner z e).1=(List.range n).map (fun i=>(Tw.rdAt cs ps z e i).1)∧∀i,i<n->Tw.rdErr cs ps edge inner z e n i=0:=by
 unfold Tw.read at h⊢
 rw[<-hn]at h⊢
 split
 ·rename_i i hi;rw[hi]at h;have:=Zp2 hi;simp at this;exact absurd h this
 ·rename_i hi;refine⟨rfl,fun i hin=> ?_⟩;rw[ZpL]at hi;simpa using hi i (by simpa using hin)
theorem Zdh (cs ps edge inner:List UInt8) (z:Nat) (e:List UInt8) (n:Nat) (hn:n=(e.length+1)/(z+1)) (hn2:2<=n) (he0:Lib.indexByte edge 0<0) (hi0:Lib.indexByte inner 0<0) (h:(Tw.read cs ps edge inner z e).2=0):
 ∃a M b,(Tw.read cs ps edge inner z e).1=a::(M++[b])∧M.length=n-2∧0<=Lib.indexByte edge a∧0<=Lib.indexByte edge b∧∀c∈M,0<=Lib.indexByte inner c:=by
 obtain⟨h1,h2⟩:=Zjv cs ps edge inner z e n hn h
 have key:∀i,Tw.isIn edge (Tw.rdAt cs ps z e i)=decide (0<=Lib.indexByte edge (Tw.rdAt cs ps z e i).1):=fun i=>ZaO edge cs ps z _ he0
 have key2:∀i,Tw.isIn inner (Tw.rdAt cs ps z e i)=decide (0<=Lib.indexByte inner (Tw.rdAt cs ps z e i).1):=fun i=>ZaO inner cs ps z _ hi0
 have g0:=h2 0 QhN
 have gz:=h2 (n-1) QhN
 refine⟨(Tw.rdAt cs ps z e 0).1,(List.range (n-2)).map (fun i=>(Tw.rdAt cs ps z e (i+1)).1),(Tw.rdAt cs ps z e (n-1)).1,?_,by simp,?_,?_,?_⟩
 ·rw[h1];obtain⟨m,rfl⟩:∃m,n=m+2:=⟨n-2,by omega⟩;rw[Zqi,Zn1,List.range_succ_eq_map];simp
 ·unfold Tw.rdErr at g0;rw[ZmF QhN]at g0;by_cases hb:Tw.isIn edge (Tw.rdAt cs ps z e 0)=false;(·rw[ZmH ⟨rfl,hb⟩]at g0;simp at g0);·rw[key 0]at hb;simpa using hb
 ·unfold Tw.rdErr at gz;by_cases hb:Tw.isIn edge (Tw.rdAt cs ps z e (n-1))=false;(·have q1:¬(0<n-1∧e.getD ((n-1)*(z+1)-1) 0=119):=(by intro c;rw[ZmH c]at gz;simp at gz);rw[ZmF q1,ZmF QhN,ZmH ⟨by omega,hb⟩]at gz;simp at gz);·rw[key]at hb;simpa using hb
 ·intro c hc;rw[Zor]at hc;obtain⟨i,hi,rfl⟩:=hc;have hi':i<n-2:=Qiv;have gi:=h2 (i+1) QhN;unfold Tw.rdErr at gi;by_cases hb:Tw.isIn inner (Tw.rdAt cs ps z e (i+1))=false;(·have q1:¬(0<i+1∧e.getD ((i+1)*(z+1)-1) 0=119):=(by intro c;rw[ZmH c]at gi;simp at gi);rw[ZmF q1,ZmF QhN,ZmF QhN,ZmH ⟨by omega,by omega,hb⟩]at gi;simp at gi);·rw[key2]at hb;simpa using hb
theorem ZjU (c:UInt8) (h:0<=Lib.indexByte [42] c):c=42:=by have:=Zgn c;rw[ZmR h,Znj]at this;exact ZnJ.1 (by simpa using(by omega:c.toNat=42))
theorem ZbR (a b:UInt8) (M:List UInt8) (k:Nat) (h:k<=M.length):((a::(M++[b])).drop 1).take k=M.take k:=by simp[Zo9 h]
theorem Zmd (M:List UInt8) (h2:2<=M.length) (hl:M.length<=1001) (hM:∀c∈M,0<=Lib.indexByte Cd.syms c):
 (Tw.comp39 (M.take (M.length-1)) true=(42::(M++[42]),0))↔(Cd.app 7 (M.take (M.length-1))).1=M:=by
 have ho:Tw.only (M.take (M.length-1)) Cd.syms=true:=by rw[ZaV,Znd];intro c hc;simpa using hM c (Zn0 hc)
 have hl1:(M.take (M.length-1)).length=M.length-1:=QeF
 generalize M.take (M.length-1)=T at*
 have h0:=ZcP T true QhN QhN
 rw[ZmH ho]at h0
 have hc:=Zhv T QhN QhN h0
 rw[show Tw.comp39 T true=((Tw.comp39 T true).1,(Tw.comp39 T true).2)from rfl,hc,h0,Zn4]
 simp
theorem Zli (l:List UInt8) (check:Bool) (h:(Tw.compCb l check).2=0):∀c∈l,0<=Lib.indexByte Tw.cCb c:=by
 rw[Zb2]at h;by_cases g0:l.length<2;·rw[ZmH g0]at h;simp at h
 rw[ZmF g0]at h;cases g1:Tw.only (l.take 1) Tw.eCb;·rw[g1,ZmH rfl]at h;simp at h
 cases g2:Tw.only (l.drop (l.length-1)) Tw.eCb;·rw[g1,g2,ZmF Bool.noConfusion,ZmH rfl]at h;simp at h
 cases g3:Tw.only ((l.drop 1).take (l.length-2)) Tw.dCb;·rw[g1,g2,g3,ZmF Bool.noConfusion,ZmF Bool.noConfusion,ZmH rfl]at h;simp at h
 exact Ze2 l QhN g1 g2 g3
theorem ZjR (a b:UInt8) (M:List UInt8) (h1:1<=M.length) (ha:0<=Lib.indexByte Tw.eCb a) (hb:0<=Lib.indexByte Tw.eCb b) (hM:∀c∈M,0<=Lib.indexByte Tw.dCb c):
 Tw.compCb (a::(M.take (M.length-1)++[b])) true=(Tw.cbc (a::(M.take (M.length-1)++[b])),0)∧∀c∈a::(M.take (M.length-1)++[b]),0<=Lib.indexByte Tw.cCb c:=by
 have hl1:(M.take (M.length-1)).length=M.length-1:=QeF
 have hN:∀c∈M.take (M.length-1),0<=Lib.indexByte Tw.dCb c:=fun c hc=>hM c (Zn0 hc)
 generalize M.take (M.length-1)=N at*
 have e1:Tw.only ((a::(N++[b])).take 1) Tw.eCb=true:=by simpa[Tw.only]using ha
 have hlen:(a::(N++[b])).length=N.length+2:=by simp
 have e2:(a::(N++[b])).drop ((a::(N++[b])).length-1)=[b]:=by rw[hlen,show N.length+2-1=N.length+1 by omega];simp
 have e3:((a::(N++[b])).drop 1).take ((a::(N++[b])).length-2)=N:=by rw[hlen,show N.length+2-2=N.length by omega];simp
 have hz:(Tw.compCb (a::(N++[b])) true).2=0:=by rw[Zb2,ZmF (by rw[hlen];omega),e1,ZmF Bool.noConfusion,e2,ZmF (by simpa[Tw.only]using hb),e3,ZmF];rw[Zpj,ZaV,Znd];intro c hc;simpa using hN c hc
 refine⟨Zqb (Zhw _ hz) hz,(Zli _ true hz)⟩
theorem Zme (l:List UInt8) (h1:1<=l.length) (hl:l.length<=1000) (ho:l.length%2=1) (hd:∀c∈l,0<=Lib.indexByte Tw.cItf c):Tw.compItf l true=((Cd.app 1 l).1,0):=by
 have hon:Tw.only l Tw.cItf=true:=by rw[ZaV,Znd];intro c hc;simpa using hd c hc
 have hz:(Tw.compItf l true).2=0:=by rw[Zcz l true h1 hl,hon,ZmF (show¬(true=false)from Bool.noConfusion),ho];rfl
 exact Zqb (Zhx l hl h1 hz) hz
theorem ZhD (e:List UInt8) (h:Nat) (he:(e.length-7)/10=h) (hz:(Tw.readItf e).2=0):(Tw.readItf e).1.length=2*h∧∀c∈(Tw.readItf e).1,0<=Lib.indexByte Tw.cItf c:=by
 unfold Tw.readItf at hz⊢;rw[he]at hz⊢;split;·exact Qfr
 ·rename_i g;rw[ZmF g]at hz;split;(·exact Qfr)
  ·rename_i g;rw[ZmF g]at hz;split;(·exact Qfr)
   ·rw[Zpj,Znd]at g;have dig:∀p,(Tw.chr Tw.cItf Tw.pItf 5 p).2=true->0<=Lib.indexByte Tw.cItf (Tw.chr Tw.cItf Tw.pItf 5 p).1:=(by intro p hp;have hk:∀i:Fin 10,0<=Lib.indexByte Tw.cItf (Tw.cItf.getD i.val 0):=QhP;rcases Zam Tw.cItf Tw.pItf 5 p with q|⟨i,hi,_,q⟩;(·rw[q]at hp;simp at hp);·rw[q];exact hk ⟨i,hi⟩);constructor
    ·clear g he hz
     induction h with
     |zero=>rfl
     |succ k ih=>rw[ZdJ,ZmM,ih];simp;omega
    ·intro c hc;simp only[List.mem_flatMap]at hc;obtain⟨i,hi,hc⟩:=hc;have hp:=g i hi;unfold Tw.pairOk at hp;rw[Zno]at hp;simp only[Zn8,Zoy,ZpD]at hc;rcases hc with rfl|rfl;(·exact dig _ hp.1);·exact dig _ hp.2
theorem ofList (l:List UInt8):∃C:ByteArray,C.data.toList=l∧C.size=l.length:=⟨⟨l.toArray⟩,by simp,by simp[ByteArray.size]⟩
theorem ckB {f:Nat} {args:Array Value} {w:World} {l:List UInt8} {D:ByteArray} (hD:D.data.toList=l) (h:Calls prog f args w fun e w'=>e=.returned (strV l)∧Ext w w'):
 Calls prog f args w fun e w'=>e=.returned (.string D)∧Ext w w':=
 h.mono fun e w' ⟨he,hx⟩=>⟨by rw[he,<-hD];simp only[strV,Zy],hx⟩
theorem ZeN {a b:ByteArray} (h:a.data.toList≠b.data.toList):(a.toList==b.toList)=false:=by rw[Znk,Znk,ZmJ];exact h
structure Parts (k:Nat) (chars:List UInt8) (check:Bool) (s:List UInt8):Prop where
 plain:check=false->Tw.textK k chars false=s
 size:check=true->2<=s.length∧s.length<=2000
 same:check=true->((Tw.compK k (Tw.textK k chars true) true=(chars,0))↔Tw.chkK k (Tw.textK k chars true)=s)
theorem ZkC (bits:List Bool) (n:Nat) (check:Bool) (hn:bits.length+1=n*10) (hn2:3+check.toNat<=n) (hn3:n<=1002+check.toNat) (hz:(Tw.readK 0 (Tw.elems bits)).2=0):
 ∃M,(Tw.readK 0 (Tw.elems bits)).1=42::(M++[42])∧M.length=n-2∧Parts 0 (42::(M++[42])) check M∧Tw.textK 0 (42::(M++[42])) true=M.take (M.length-1):=by
 obtain⟨a,M,b,h1,h2,h3,h4,h5⟩:=Zdh Tw.c39 Tw.p39 [42] Cd.syms 9 (Tw.elems bits) n (by rw[Zan];omega) QhN QhP QhP hz
 have ha:=ZjU a h3
 have hb:=ZjU b h4
 subst ha hb
 have ht:Tw.textK 0 (42::(M++[42])) true=M.take (M.length-1):=by show((42::(M++[42])).drop 1).take ((42::(M++[42])).length-2-1)=_;rw[ZbR 42 42 M _ QhQ];congr 1;simp
 refine⟨M,h1,h2,⟨fun _=> ?_,fun hc=> ?_,fun hc=> ?_⟩,ht⟩
 ·show((42::(M++[42])).drop 1).take ((42::(M++[42])).length-2-0)=_;rw[ZbR 42 42 M _ QhQ];simp
 ·subst hc;simp at hn2 hn3;omega
 ·subst hc;simp at hn2 hn3;rw[ht];exact Zmd M QhN QhN h5
theorem ZkD (bits:List Bool) (n:Nat) (check:Bool) (hn:bits.length+1=n*8) (hn2:2+check.toNat<=n) (hn3:n<=1000+check.toNat) (hz:(Tw.readK 1 (Tw.elems bits)).2=0):
 (Tw.readK 1 (Tw.elems bits)).1.length=n∧Parts 1 (Tw.readK 1 (Tw.elems bits)).1 check (Tw.readK 1 (Tw.elems bits)).1∧(check=true->∀c∈Tw.textK 1 (Tw.readK 1 (Tw.elems bits)).1 true,0<=Lib.indexByte Tw.cCb c):=by
 obtain⟨a,M,b,h1,h2,h3,h4,h5⟩:=Zdh Tw.cCb Tw.pCb Tw.eCb Tw.dCb 7 (Tw.elems bits) n (by rw[Zan];omega) QhN QhP QhP hz
 have h1':(Tw.readK 1 (Tw.elems bits)).1=a::(M++[b]):=h1
 rw[h1']
 have hlen:(a::(M++[b])).length=M.length+2:=by simp
 have ht:check=true->Tw.textK 1 (a::(M++[b])) true=a::(M.take (M.length-1)++[b]):=by intro hc;subst hc;simp at hn2;show(a::(M++[b])).take ((a::(M++[b])).length-2)++(a::(M++[b])).drop ((a::(M++[b])).length-1)=_;rw[hlen];obtain⟨q,hq⟩:∃q,M.length=q+1:=⟨M.length-1,by omega⟩;rw[show M.length+2-2=q+1 by omega,show M.length+2-1=M.length+1 by omega,show M.length-1=q by omega,Zpw,Zpb,Zo9 QhN,List.drop_left];rfl
 refine⟨by rw[hlen];omega,⟨fun _=>rfl,fun hc=> ?_,fun hc=> ?_⟩,fun hc=> ?_⟩
 ·subst hc;simp at hn2 hn3;rw[hlen];omega
 ·rw[ht hc];subst hc;simp at hn2;obtain⟨c1,_⟩:=ZjR a b M QhN h3 h4 h5;show Tw.compCb _ true=_↔Tw.cbc _=_;rw[c1,Zn4];simp
 ·rw[ht hc];subst hc;simp at hn2;exact(ZjR a b M QhN h3 h4 h5).2
theorem ZkE (bits:List Bool) (h:Nat) (check:Bool) (hn:bits.length=10*h+7) (hh1:1<=h) (hh:h<=500) (hz:(Tw.readK 2 (Tw.elems bits)).2=0):
 (Tw.readK 2 (Tw.elems bits)).1.length=2*h∧Parts 2 (Tw.readK 2 (Tw.elems bits)).1 check (Tw.readK 2 (Tw.elems bits)).1:=by
 obtain⟨h1,h2⟩:=ZhD (Tw.elems bits) h (by rw[Zan];omega) hz
 have h1':(Tw.readK 2 (Tw.elems bits)).1.length=2*h:=h1
 have h2':∀c∈(Tw.readK 2 (Tw.elems bits)).1,0<=Lib.indexByte Tw.cItf c:=h2
 generalize(Tw.readK 2 (Tw.elems bits)).1=l at*
 refine⟨h1',⟨fun _=>rfl,fun _=>by omega,fun _=> ?_⟩⟩
 have hl:(l.take (l.length-1)).length=l.length-1:=QeF
 have hc:=Zme (l.take (l.length-1)) QhN QhN QhN (fun c hc=>h2' c (Zn0 hc))
 show Tw.compItf (l.take (l.length-1)) true=(l,0)↔(Cd.app 1 (l.take (l.length-1))).1=l
 rw[hc,Zn4]
 simp
end
end Go.Proofs.YtbngggoccndefaaGreatDoor
