/-
  Laid.
-/
import Derived.Test.YtbngggoccndefaaGreatDoorRt19
import Derived.Test.YtbngggoccndefaaGreatDoorRt21
import Derived.Test.YtbngggoccndefaaGreatDoorRt38
set_option maxHeartbeats 8000000
set_option maxRecDepth 100000
set_option linter.all false
namespace Go.Proofs.YtbngggoccndefaaGreatDoor
open Go.Proofs.Tryz
section
open Go.RowKit
namespace Ln
def encEan (k:Int) (s a:List UInt8):List Bool×Int:=if(Ea.comp k s).2≠0 then([],(Ea.comp k s).2)else Ea.enc k (Ea.comp k s).1 a
def encFin (r:List Bool×Int):List Bool×Int:=if r.2≠0 then([],r.2)else if 65536<r.1.length then([],4)else r
theorem comp_len (k:Int) (l:List UInt8):(Ea.comp k l).1.length<=13:=by
 have h:Ea.size k<=13:=by unfold Ea.size;exact M5
 unfold Ea.comp;(repeat' split)<;>(try simp only[U2,O0,L1,YP])<;>omega
end Ln
theorem iI (k:Int) (s a:ByteArray) (hs:s.size<=9223372036854775806) (ha:a.size<=9223372036854775807) (w:World):
 Calls prog 28 #[.int .i64 k,.string s,.string a] w (ZT (Ln.encEan k s.data.toList a.data.toList) w):=by
 have HC:=B0 (JH k s C0 w)
 have HX:=B0 (Ln.encEan.eq_1 k s.data.toList a.data.toList)
 have hcl:=Ln.comp_len k s.data.toList
 obtain⟨⟨l,er⟩,hc⟩:∃x,Ea.comp k s.data.toList=x:=⟨_,rfl⟩
 rw[hc]at HC HX hcl
 dsimp only at HX hcl
 have HE:=B0 (fun w=>eY k (Ea.bS l) a (by rw[Zc (Ea.bS_list l)];omega) ha w)
 rw[Ea.bS_list]at HE
 generalize Ln.encEan k s.data.toList a.data.toList=res at*
 unfold strE at HC
 dsimp only at HC
 clear hc hcl
 by_cases h0:er=0
 ·subst h0;rw[D0 J0]at HX;generalize Ea.enc k l a.data.toList=r2 at*;obtain⟨m,e2⟩:=r2;go_enter func28,ntmps28;go_wp2_with fail;refine HC.out.mono ?_;rintro e w1 ⟨rfl,hx1⟩;go_wp2_with fail;refine(HE.out w1).mono ?_;rintro e w2 ⟨v2,rfl,hv2,hx2⟩;go_wp2;go_ret2;exact⟨_,by rw[HX.out];rfl,by rw[HX.out];exact hv2,hx1.trans hx2⟩
 ·have hb:(er !=0)=true:=N2.2 h0;rw[G0 h0]at HX;clear h0 HE;go_enter func28,ntmps28;go_wp2_with fail;refine HC.out.mono ?_;rintro e w1 ⟨rfl,hx1⟩;go_wp2;go_ret2;exact⟨_,by rw[HX.out];rfl,by rw[HX.out];exact SlK.nil _,hx1⟩
theorem yT (k:Int) (hk:k=1∨k=2∨k=3∨k=4) (s:ByteArray) (r:Int) (ck:Bool) (a:ByteArray) (hs:s.size<=9223372036854775806) (ha:a.size<=9223372036854775807) (w:World):
 Calls prog 10 #[.int .i64 k,.string s,.agg #[.int .i64 r,.bool ck,.string a]] w (ZT (Ln.encFin (Ln.encEan k s.data.toList a.data.toList)) w):=by
 have HE:=B0 (fun w'=>iI k s a hs ha w')
 generalize Ln.encEan k s.data.toList a.data.toList=res at*
 obtain⟨m,er⟩:=res
 have HX:=B0 (Ln.encFin.eq_1 (m,er))
 dsimp only at HX
 generalize Ln.encFin (m,er)=out at*
 by_cases h0:er=0
 ·subst h0;rw[D0 J0]at HX;by_cases hl:65536<m.length;(·have hlI:65536<(m.length:Int):=C0;rw[G0 hl]at HX;clear hl;rcases hk with rfl|rfl|rfl|rfl;all_goals go_enter func10,ntmps10;go_wp2_with fail;refine(HE.out _).mono ?_;rintro e w1 ⟨v1,rfl,hv1,hx1⟩;obtain⟨-,a1,c1,rfl,-⟩:=hv1;rw[N0];go_wp2;go_ret2;exact⟨_,by rw[HX.out];rfl,by rw[HX.out];exact SlK.nil _,((Ext.refl w).alloc _).trans hx1⟩);·have hlI:¬65536<(m.length:Int):=C0;rw[D0 hl]at HX;clear hl;rcases hk with rfl|rfl|rfl|rfl;all_goals go_enter func10,ntmps10;go_wp2_with fail;refine(HE.out _).mono ?_;rintro e w1 ⟨v1,rfl,hv1,hx1⟩;have HV:=B0 hv1;obtain⟨-,a1,c1,rfl,-⟩:=hv1;dsimp only at HV;rw[N0]at HV⊢;go_wp2;go_ret2;exact⟨_,by rw[HX.out];rfl,by rw[HX.out];exact HV.out,((Ext.refl w).alloc _).trans hx1⟩
 ·have hb:(er !=0)=true:=N2.2 h0;rw[G0 h0]at HX;clear h0;rcases hk with rfl|rfl|rfl|rfl;all_goals go_enter func10,ntmps10;go_wp2_with fail;refine(HE.out _).mono ?_;rintro e w1 ⟨v1,rfl,hv1,hx1⟩;go_wp2;go_ret2;exact⟨_,by rw[HX.out];rfl,by rw[HX.out];exact SlK.nil _,((Ext.refl w).alloc _).trans hx1⟩
end
section
namespace Ln
theorem found_own {row:List Bool} {i:Nat} {x:Lin} (h:reader i row=some x):∀n,i<n->1<=(found row n).1∧((found row n).1=1->(found row n).2=x):=by
 intro n
 induction n with
 |zero=>intro h2;omega
 |succ n ih=>
  intro hi;unfold found;by_cases e:i=n;(·subst e;rw[h];exact⟨by dsimp only;omega,fun _=>rfl⟩)
  ·obtain⟨h1,h2⟩:=ih C0
   cases hr:reader n row with
   |none=>exact⟨h1,h2⟩
   |some y=>exact⟨by dsimp only;omega,fun h3=>by dsimp only at h3;omega⟩
theorem decode_own {row:List Bool} {i:Nat} {x:Lin} (h:reader i row=some x) (hi:i<5) (hl:row.length<=65536) (hd:dark row=true):decode row=(x,0)∨decode row=(zero,34):=by
 obtain⟨h1,h2⟩:=found_own h 5 hi;unfold decode;rw[D0 C0,D0 (by rw[hd];exact Bool.noConfusion)];unfold outcome;rw[D0 C0];by_cases h3:1<(found row 5).1;·rw[G0 h3];exact .inr rfl
 ·rw[D0 h3,h2 C0];exact .inl rfl
def encTwo (k:Int) (l:S) (r:Int) (ck:Bool):List Bool×Int:=
 if(Tw.enc k l r ck).2≠0 then([],(Tw.enc k l r ck).2)else if(Rn.modules (Tw.enc k l r ck).1).2≠0 then([],(Rn.modules (Tw.enc k l r ck).1).2)else(quiet (Rn.modules (Tw.enc k l r ck).1).1 10 10,0)
def enc128 (cs:List Int):List Bool×Int:=if cs=[]then([],5)else(Cs.row cs,0)
def encCode (l:S):List Bool×Int:=if l.any (fun c=>decide (127<c.toNat))then([],6)else enc128 (Gs.ints l)
def encGs (l:S):List Bool×Int:=
 if(Gs.parse l).2≠0 then([],(Gs.parse l).2)else if(Gs.chars (Gs.parse l).1).2≠0 then([],(Gs.chars (Gs.parse l).1).2)else enc128 (Gs.chars (Gs.parse l).1).1
def encAny (k:Int) (l:S) (r:Int) (ck:Bool) (a:S):List Bool×Int:=
 if k=1∨k=2∨k=3∨k=4 then encEan k l a
 else if k=5∨k=6∨k=7 then encTwo k l r ck
 else if k=8 then encCode l
 else if k=9 then encGs l
 else([],1)
def encode (k:Int) (l:S) (r:Int) (ck:Bool) (a:S):List Bool×Int:=encFin (encAny k l r ck a)
theorem enc_back {k:Int} {l:S} {r:Int} {ck:Bool} {ws:List Int} (hl:l.length<=60) (h:Tw.enc k l r ck=(ws,0)):(Tw.dec k ws false).2=0:=by
 obtain⟨j,chars,hj,hc,rfl,hr,hs⟩:=lZ k l r ck ws h;rw[mA k j hj];have hw:Tw.wide (Tw.widths r (Tw.drawK j chars))=(isW (Tw.drawK j chars),0):=by have:=lF (Tw.drawK j chars) r 1 hr ⟨by omega,by omega⟩ (hs.both 0).1.1 (hs.both 0).1.2;rw[A8 (g:=id) (fun x _=>Int.mul_one x),XD]at this;exact R2
 have hlen:(Tw.widths r (Tw.drawK j chars)).length=(Tw.drawK j chars).length:=N0 _;have hb1:=RG j chars;have hb2:chars.length<=l.length+4:=by have:=kA j l ck;rw[hc]at this;exact R2
 have hcnt:Tw.countsK j (Tw.drawK j chars).length false=true:=by have h1:=hs.counts;obtain⟨n,hn⟩:∃n,n=(Tw.drawK j chars).length:=⟨_,rfl⟩;rw[<-hn]at h1 hb1⊢;rcases hj with⟨_,rfl⟩|⟨_,rfl⟩|⟨_,rfl⟩;(·show Tw.counts 9 1 1000 n false=true;replace h1:Tw.counts 9 1 1000 n ck=true:=h1;exact kB);(·show Tw.counts 7 0 998 n false=true;replace h1:Tw.counts 7 0 998 n ck=true:=h1;exact kB);·exact h1
 unfold Tw.decK;rw[hw,hlen,hcnt,D0 Bool.noConfusion,D0 (fun h=>h rfl)];simp only;rw[vI _ hs.nw,hs.read,D0 (fun h=>h rfl),D0 (fun h=>Bool.noConfusion h.1)]
theorem modules_ok {ws:List Int} (h:(Rn.modules ws).2=0):ws.length%2=1∧(∀x∈ws,1<=x)∧(Rn.modules ws).1=Rn.mods true ws:=by
 unfold Rn.modules at h⊢;by_cases h1:ws.length=0;·exact XB
 rw[D0 h1]at h⊢;by_cases h2:ws.length%2=0;·exact ZZ
 rw[D0 h2]at h⊢;by_cases h3:Tw.inRng ws=false;·exact UR
 rw[D0 h3]at h⊢;by_cases h4:65536<Rn.sum ws;·rw[G0 h4]at h;cases h
 rw[D0 h4];refine⟨by omega,fun x hx=> ?_,rfl⟩;rw[W6]at h3;have:=S1.1 h3 x hx;rw[N1]at this;exact N3 this.1
theorem dark_of {s:List Bool} (h:Rn.core s≠ []):dark s=true:=by
 cases hd:dark s with
 |true=>rfl
 |false=>exact absurd ((dark_core s).1 hd) h
theorem row_core {cs:List Int} (hc:∀c∈cs,Cs.okC c) (hl:cs.length<=4096):Rn.core (Cs.row cs)≠ []:=by have h:=Cs.row_dec hc hl;intro e;unfold Cc.dec at h;rw[G0 e]at h;cases h
theorem okC_ints {l:S} (h:l.any (fun c=>decide (127<c.toNat))=false):∀c∈Gs.ints l,Cs.okC c:=by intro c hc;obtain⟨b,hb,rfl⟩:=J3.1 hc;have:=S8.1 h b hb;have h2:¬127<b.toNat:=fun h=>this (F1 h);left;omega
theorem chars_okC {xs:List Gs.El} {c:List Int} (h:Gs.chars xs=(c,0)):(∀x∈c,Cs.okC x)∧c.head? =some 256∧c.length<=4096:=by
 unfold Gs.chars at h;split at h;·exact TK
 ·split at h;(·simp at h);·rename_i h1 h2;simp only[A3,F5]at h;subst h;have h1:=M3 h1;unfold Gs.verAll at h1;split at h1;(·simp at h1);·refine⟨fun x hx=> ?_,rfl,by omega⟩;have:=S1.1 (vE h1) x hx;simp only[Gs.okCh,F8,C2,N1,V1]at this;unfold Cs.okC;omega
theorem reader_0 (row:List Bool):reader 0 row=rEan row:=rfl
theorem reader_1 (row:List Bool):reader 1 row=r128 row:=rfl
theorem reader_2 (row:List Bool):reader 2 row=rTwo 5 row:=rfl
theorem reader_3 (row:List Bool):reader 3 row=rTwo 6 row:=rfl
theorem reader_4 (row:List Bool):reader 4 row=rTwo 7 row:=rfl
def Back (row:List Bool) (x:Lin):Prop:=decode row=(x,0)∨decode row=(zero,34)
theorem back_ean {k:Int} {l a:S} (h1:(encEan k l a).2=0) (h2:(encEan k l a).1.length<=65536):(Ea.comp k l).2=0∧Back (encEan k l a).1 (Ea.outK k (Ea.comp k l).1,Ea.outT k (Ea.comp k l).1,a):=by
 unfold encEan at h1 h2⊢;by_cases hc:(Ea.comp k l).2≠0;·exact GY
 rw[D0 hc]at h1 h2⊢;refine⟨M3 hc,?_⟩;have hd:=Ea.dec_enc h1 0 0 J0 J0;have e:Ea.lgt 0++(Ea.enc k (Ea.comp k l).1 a).1++Ea.lgt 0=(Ea.enc k (Ea.comp k l).1 a).1:=by simp[Ea.lgt]
 rw[e]at hd;obtain⟨g1,g2,g3,g4⟩:=Ea.enc_body h1;have g5:=(Ea.body_ends (k:=k) (l:=(Ea.comp k l).1) g2 g3).1;have hdk:dark (Ea.enc k (Ea.comp k l).1 a).1=true:=by unfold dark;rw[g4,List.any_append,List.any_append];have:(Ea.body k (Ea.comp k l).1 a).any (fun b=>b)=true:=J8.2 ⟨true,List.mem_of_mem_head? g5,rfl⟩;rw[this,Bool.or_true,Bool.true_or]
 generalize(Ea.enc k (Ea.comp k l).1 a).1=row at*;refine decode_own (i:=0) ?_ J0 h2 hdk;rw[reader_0];unfold rEan;rw[hd,G0 rfl]
theorem back_two {k:Int} {l:S} {r:Int} {ck:Bool} (hl:l.length<=60) (hk:k=5∨k=6∨k=7) (h1:(encTwo k l r ck).2=0) (h2:(encTwo k l r ck).1.length<=65536):(Tw.enc k l r ck).2=0∧(Tw.dec k (Tw.enc k l r ck).1 false).2=0∧Back (encTwo k l r ck).1 (k,(Tw.dec k (Tw.enc k l r ck).1 false).1,[]):=by
 unfold encTwo at h1 h2⊢;by_cases hc:(Tw.enc k l r ck).2≠0;·exact GY
 rw[D0 hc]at h1 h2⊢;by_cases hm:(Rn.modules (Tw.enc k l r ck).1).2≠0;·rw[G0 hm]at h1;exact absurd h1 hm
 rw[D0 hm]at h1 h2⊢;obtain⟨m1,m2,m3⟩:=modules_ok (M3 hm);have hb:=enc_back hl (show Tw.enc k l r ck=((Tw.enc k l r ck).1,0)from I6 rfl (M3 hc));refine⟨M3 hc,hb,?_⟩;dsimp only at h2⊢;rw[m3]at h2⊢;generalize(Tw.enc k l r ck).1=ws at*;obtain⟨g1,g2,g3,g4⟩:=Cs.widths_quiet m2 m1 10 10;have e:Cs.quiet (Rn.mods true ws) 10 10=quiet (Rn.mods true ws) 10 10:=rfl;rw[e]at g1 g4;generalize quiet (Rn.mods true ws) 10 10=row at*;have two:rTwo k row=some (k,(Tw.dec k ws false).1,[]):=by unfold rTwo;rw[g1,G0 hb]
 have hdk:=dark_of g4;rcases hk with rfl|rfl|rfl;·exact decode_own (i:=2) (by rw[reader_2];exact two) J0 h2 hdk
 ·exact decode_own (i:=3) (by rw[reader_3];exact two) J0 h2 hdk
 ·exact decode_own (i:=4) (by rw[reader_4];exact two) J0 h2 hdk
theorem back_code {l:S} (hl:l.length<=60) (h1:(encCode l).2=0) (h2:(encCode l).1.length<=65536):Back (encCode l).1 (8,l,[]):=by
 unfold encCode at h1 h2⊢;by_cases hc:l.any (fun c=>decide (127<c.toNat))=true;·rw[G0 hc]at h1;cases h1
 rw[D0 hc]at h1 h2⊢;unfold enc128 at h1 h2⊢;by_cases hn:Gs.ints l=[];·rw[G0 hn]at h1;cases h1
 rw[D0 hn]at h2⊢;have hok:=okC_ints (by rw[XQ]at hc;exact hc);have hlen:(Gs.ints l).length<=4096:=by rw[ZH];omega
 have hdec:=Cs.row_dec hok hlen;have hdk:=dark_of (row_core hok hlen);dsimp only at h2⊢;generalize Cs.row (Gs.ints l)=row at*;refine decode_own (i:=1) ?_ J0 h2 hdk;rw[reader_1];unfold r128;rw[hdec];unfold of128;dsimp only;have hany:(Gs.ints l).any (fun c=>decide (127<c))=false:=by rw[S8];intro c hcc h3;have h3:=N3 h3;obtain⟨b,hb,rfl⟩:=J3.1 hcc;exact hc (J8.2 ⟨b,hb,F1 C0⟩)
 have hhead:¬(Gs.ints l).head? =some 256:=fun e=>by have:=List.mem_of_mem_head? e;exact OE l 256 this rfl
 rw[D0 (fun h=>h rfl),D0 hhead,D0 (by rw[hany];exact Bool.noConfusion)];have:(Gs.ints l).map (fun c=>UInt8.ofNat c.toNat)=l:=by unfold Gs.ints;rw[D6];refine(A8 fun c _=> ?_).trans (XD l);show UInt8.ofNat ((c.toNat:Int)).toNat=c;rw[R6];exact UInt8.ofNat_toNat
 rw[this]
theorem back_gs {l:S} (h1:(encGs l).2=0) (h2:(encGs l).1.length<=65536):(Gs.parse l).2=0∧(Gs.format (Gs.parse l).1).2=0∧Back (encGs l).1 (9,(Gs.format (Gs.parse l).1).1,[]):=by
 unfold encGs at h1 h2⊢;by_cases hp:(Gs.parse l).2≠0;·rw[G0 hp]at h1;exact absurd h1 hp
 rw[D0 hp]at h1 h2⊢;by_cases hc:(Gs.chars (Gs.parse l).1).2≠0;·exact GY
 rw[D0 hc]at h1 h2⊢;have hp:=M3 hp;have hc:=M3 hc;obtain⟨xs,hxs⟩:∃xs,xs=(Gs.parse l).1:=⟨_,rfl⟩;have hf:(Gs.format xs).2=0:=by have:=yW (xs:=xs) (s:=l) (by rw[hxs];exact I6 rfl hp);rw[this]
 rw[<-hxs]at h1 h2 hc⊢;obtain⟨c,hcc⟩:∃c,c=(Gs.chars xs).1:=⟨_,rfl⟩;rw[<-hcc]at h1 h2⊢;have hch:Gs.chars xs=(c,0):=by rw[hcc];exact I6 rfl hc
 obtain⟨hok,hhd,hlen⟩:=chars_okC hch;have hfr:=lA hch;refine⟨hp,hf,?_⟩;unfold enc128 at h1 h2⊢;by_cases hn:c=[];·rw[G0 hn]at h1;cases h1
 rw[D0 hn]at h2⊢;have hdec:=Cs.row_dec hok hlen;have hdk:=dark_of (row_core hok hlen);dsimp only at h2⊢;generalize Cs.row c=row at*;refine decode_own (i:=1) ?_ J0 h2 hdk;rw[reader_1];unfold r128;rw[hdec];unfold of128;dsimp only;rw[D0 (fun h=>h rfl),G0 hhd,hfr];dsimp only;rw[D0 (fun h=>h rfl),D0 (fun h=>h hf)]
theorem fin_ok {r:List Bool×Int} (h:(encFin r).2=0):encFin r=r∧r.2=0∧r.1.length<=65536:=by
 unfold encFin at h⊢;by_cases h1:r.2≠0;·rw[G0 h1]at h;exact absurd h h1
 rw[D0 h1]at h⊢;by_cases h2:65536<r.1.length;·exact ZZ
 rw[D0 h2];exact⟨rfl,M3 h1,by omega⟩
theorem fin_bad {r:List Bool×Int} (h:(encFin r).2≠0):(encFin r).1=[]:=by
 unfold encFin at h⊢;by_cases h1:r.2≠0;·rw[G0 h1]
 rw[D0 h1]at h⊢;by_cases h2:65536<r.1.length;·rw[G0 h2]
 rw[D0 h2]at h;exact absurd (M3 h1) h
end Ln
end
section
open Go.RowKit
theorem mB (v:Nat):Cc.widOf v=Cs.widthsOf (v:Int):=by
 unfold Cc.widOf Cs.widthsOf;by_cases h:v=106;·rw[G0 h,G0 C0]
 ·rw[D0 h,D0 C0,R6]
theorem TM (vs:List Int) (x:Int):Cs.allW (vs++[x])=Cs.allW vs++Cs.widthsOf x:=by simp[Cs.allW]
theorem mC {w:World} {v:Value} {xs:List Value} (h:SlK w v xs) (h0:0<xs.length):∃b o c,v=.slice (some ⟨b,o,none⟩) xs.length c∧b<w.heap.size∧∀j u,xs[j]? =some u->w.cell? ⟨b,o+j,none⟩=some u:=by
 rcases h.1 with⟨h1,_⟩|⟨b,o,c,h1,h2,h3⟩;·rw[h1]at h0;cases h0
 ·exact⟨b,o,c,h1,h2,fun j u hj=>by rw[h3 j (J1.1 hj).1];exact hj⟩
theorem mD {w:World} {ops:Array Oper} {rest:List Oper} {o:Oper} {a:Act} {Q:Exit->Act->World->Prop} (hgd:o.guard=none) (s x:Operand)
 (ho:o.op=.call {callee:=.builtin .append,args:= #[s,x],argTypes:= #[43,43]})
 (B:Nat) (v:Value) (l:List Int) (hs:a.eval s=v) (hown:Own 3 w B v (l.map encI)) (b off n c:Nat) (ys:List Int) (hx:a.eval x=.slice (some ⟨b,off,none⟩) n c) (hyn:ys.length=n)
 (hc:∀j u,(ys.map encI)[j]? =some u->w.cell? ⟨b,off+j,none⟩=some u) (hn:l.length+n<=1000000000) (hB:B<=w.heap.size)
 (h:∀v' w',Own 3 w' B v' ((l++ys).map encI)->w.grownBy w' v.ownBlock->wpList prog ops Q rest (a.put o.dst v') w'):wpList prog ops Q (o::rest) a w:=
 ZW hgd s x 43 3 (.int .i64 0) 8 ho underlying43 XI rfl J0 B v _ hs hown b off n c (ys.map encI) hx (by rw[N0,hyn]) hc
  (fun u hu=>by obtain⟨y,_,rfl⟩:=J3.1 hu;rfl) D5 hB
  (fun v' w' h1 h2=>h v' w' XH h2)
theorem kC (v:Value) (cs:List Int) (w:World) (hv:Sl w v (cs.map encI)) (hl:cs.length<=1000) (hok:∀c∈cs,Cs.okC c):
 Calls prog 67 #[v] w (ZT (Ln.enc128 cs) w):=by
 have HCV:=B0 (iH v cs w hv C0 hok)
 by_cases hn:cs=[]
 ·rw[G0 hn]at HCV;have HF:Hid (Ln.enc128 cs=([],5)):=B0 (by unfold Ln.enc128;rw[G0 hn]);generalize Ln.enc128 cs=res at*;clear hn hv hok;go_enter func67,ntmps67;go_wp2_with fail;refine HCV.out.mono ?_;rintro e w1 ⟨u,rfl,hu,hx1⟩;go_wp2;go_ret2;rw[HF.out];exact⟨_,rfl,SlK.nil _,hx1⟩
 rw[D0 hn]at HCV
 have HF:Hid (Ln.enc128 cs=(Cs.row cs,0)):=B0 (by unfold Ln.enc128;rw[D0 hn])
 generalize Ln.enc128 cs=res at*
 obtain⟨vs0,hvs0,h20,hlen0,hall0,-,-⟩:=Cs.values_is hok (show cs.length<=4096 by omega)
 obtain⟨vs,hvs⟩:∃vs,vs=Cs.values cs:=⟨_,rfl⟩
 have hvl:vs.length<=3010:=by rw[hvs,hvs0,O0,YP];omega
 have hvall:∀x∈vs,0<=x∧x<=106:=by rw[hvs,hvs0];intro x hx;rcases M2.1 hx with hx|hx;(·have:=hall0 x hx;omega);·rw[Y2]at hx;omega
 have HWS:Hid ((∀x∈Cs.allW vs,1<=x∧x<=4)∧(Cs.allW vs).length%2=1∧Rn.sum (Cs.allW vs)<=40000∧(Cs.allW vs).length<=40000):=B0 (by refine⟨Cs.allW_pos vs hvall,?_,?_,?_⟩;(·rw[hvs,hvs0];show(Cs.allW (vs0++[106])).length%2=1;rw[TM,O0,Cs.allW_len vs0 hall0];show(6*vs0.length+7)%2=1;omega);(·rw[hvs,hvs0,TM,Rn.sum_app,Cs.allW_sum vs0 hall0];have:Rn.sum (Cs.widthsOf 106)=13:=J0;omega);·rw[hvs,hvs0,TM,O0,Cs.allW_len vs0 hall0];show 6*vs0.length+7<=40000;omega)
 have HWL:Hid (∀j,(Cs.allW (vs.take j)).length<=7*j):=B0 (fun j=>by
  induction j with
  |zero=>rw[W9];simp[Cs.allW]
  |succ j ih=>rcases N5 j vs.length with h|h;(·obtain⟨x,hx⟩:∃x,vs[j]? =some x:=⟨_,P0 h⟩;rw[R5,hx];show(Cs.allW (vs.take j++[x])).length<=_;rw[TM,O0];have hx2:=hvall x (I1 hx);have:(Cs.widthsOf x).length<=7:=(by by_cases h6:x=106;(·subst h6;decide);·rw[(Cs.pat_ok hx2.1 C0).1];omega);omega);·rw[P1 C0];rw[P1 h]at ih;omega)
 have HROW:Hid (Cs.row cs=Ln.quiet (Rn.mods true (Cs.allW vs)) 10 10):=B0 (by rw[hvs];rfl)
 rw[<-hvs]at HCV
 have HVA:=B0 hvall
 obtain⟨n,hn2⟩:∃n,n=vs.length:=⟨_,rfl⟩
 rw[<-hn2]at hvl
 have HN:=B0 hn2
 clear hvs hvs0 h20 hlen0 hall0 hvall hn hn2 hv hok
 go_enter func67,ntmps67
 go_wp2_with fail
 refine HCV.out.mono ?_
 rintro e w1 ⟨u,rfl,hu,hx1⟩
 dsimp only at hu
 obtain⟨a,c,rfl⟩:=hu.1.form
 rw[N0,<-HN.out]at hu⊢
 have HU:=B0 hu.1
 have HX1:=B0 hx1
 have HO0:Hid (Own 3 w1 w1.heap.size (.slice none 0 0) ((Cs.allW (vs.take 0)).map encI)):=B0 (Own.nil _ _ _)
 clear hu hx1 HCV
 go_wp2_with fail
 go_loopw [6,21] (fun t6 t wr=>∃j:Nat,j<=n∧t=.int .i64 (j:Int)∧Hid (Own 3 wr w1.heap.size t6 ((Cs.allW (vs.take j)).map encI))∧Hid (Ext w1 wr)) (fun _ t _=>n-(intOf t).toNat)
 case atStart=>exact⟨0,U0 _,rfl,HO0,B0 (Ext.refl _)⟩
 case round=>
 clear HO0
 rename World=>wr
 obtain⟨j,hj,rfl,HO,HX⟩:=hrel
 by_cases hlt:j<n
 ·have hjI:(j:Int)<(n:Int):=C0;obtain⟨x,hxj⟩:∃x,vs[j]? =some x:=⟨_,P0 U3⟩;obtain⟨b,o,ha,hb,hc⟩:=HU.out.int_at HX.out hxj;subst ha;have hx2:=HVA.out x (I1 hxj);obtain⟨xn,rfl⟩:∃xn:Nat,x=(xn:Int):=⟨x.toNat,by omega⟩;have HW:=B0 (JA xn wr C0);rw[mB]at HW;have hlen:1<=(Cs.widthsOf (xn:Int)).length∧(Cs.widthsOf (xn:Int)).length<=7:=(by by_cases h6:xn=106;(·subst h6;decide);·rw[(Cs.pat_ok (v:=(xn:Int)) C0 C0).1];omega);have HS9:Hid (Cs.allW (vs.take (j+1))=Cs.allW (vs.take j)++Cs.widthsOf (xn:Int)):=B0 (by rw[R5,hxj];exact TM _ _);have hal:=HWL.out j;generalize Cs.widthsOf (xn:Int)=ps at*;clear hxj hx2;go_wp2_with fail;refine HW.out.mono ?_;rintro e w2 ⟨u2,rfl,hu2,hx2⟩;obtain⟨b2,o2,c2,rfl,hb2,hcell⟩:=mC hu2 D5;rw[N0]at hu2⊢;obtain⟨p,hp⟩:∃p,p=ps.length:=⟨_,rfl⟩;rw[<-hp]at hlen⊢;have HP:=B0 hp;have HO2:=B0 (HO.out.ext hx2);have HX2:=B0 (HX.out.trans hx2);have HCE:=B0 hcell;have hsz:=HX2.out.size;clear hp hu2 hx2 hcell HO HX HW;go_wp2_with (at_builtin;refine mD rfl _ _ rfl w1.heap.size _ (Cs.allW (vs.take j)) rfl HO2.out _ _ _ _ ps rfl HP.out.symm HCE.out C0 hsz ?_);intro v5 w5 hown5 hg5;have HO5:Hid (Own 3 w5 w1.heap.size v5 ((Cs.allW (vs.take (j+1))).map encI)):=B0 (by rw[HS9.out];first|exact hown5|(rw[B4];exact hown5));have HX5:Hid (Ext w1 w5):=B0 (HX2.out.ofGrown hg5 (fun z hz=>HO2.out.low z hz));clear hown5 hg5;go_wp2_with fail;go_roundw;(case rel=>exact⟨j+1,by omega,by go_num,HO5,HX5⟩);case measure=>exact Qr
 obtain rfl:n=j:=by omega
 have HO9:Hid (Own 3 wr w1.heap.size u6 ((Cs.allW vs).map encI)):=B0 (by have h:=HO.out;rw[P1 OM]at h;exact h)
 have HX9:=B0 (HX1.out.trans HX.out)
 have HM:=B0 (KY _ _ wr HO9.out.sl (by have:=HWS.out.2.2.2;omega))
 obtain⟨ws,hws⟩:∃ws,ws=Cs.allW vs:=⟨_,rfl⟩
 rw[<-hws]at HWS HROW HM
 have HMO:Hid (Rn.modules ws=(Rn.mods true ws,0)):=B0 (by obtain⟨h1,h2,h3,_⟩:=HWS.out;unfold Rn.modules;rw[D0 C0,D0 C0,D0,D0 C0];rw[W6];refine S1.2 fun x hx=> ?_;have:=h1 x hx;rw[F1 C0,F1 C0];rfl)
 rw[HMO.out]at HM
 have hml:1<=(Rn.mods true ws).length∧(Rn.mods true ws).length<=40000:=by obtain⟨h1,h2,h3,_⟩:=HWS.out;have h4:=Rn.mods_len ws true (fun x hx=>(h1 x hx).1);have h5:=Rn.sum_pos ws (fun x hx=>(h1 x hx).1);omega
 generalize Rn.mods true ws=m at*
 obtain⟨M,hM⟩:∃M,M=m.length:=⟨_,rfl⟩
 rw[<-hM]at hml
 have HML:=B0 hM
 clear hM hws hj hlt HO HX HWL HVA HU HWS
 go_wp2_with fail
 refine HM.out.mono ?_
 rintro e w2 ⟨u2,rfl,hu2,hx2⟩
 dsimp only at hu2
 obtain⟨x0,hx0⟩:∃x,m[0]? =some x:=⟨_,P0 (by rw[<-HML.out];omega)⟩
 obtain⟨av,cv,rfl⟩:=hu2.1.form
 rw[N0,<-HML.out]at hu2⊢
 obtain⟨b0,o0,hav,hb0,-⟩:=hu2.1.bool_at (Ext.refl w2) hx0
 subst hav
 have HQ:=B0 (xN m 10 10)
 have HQL:=B0 (JD m 10 10)
 rw[<-HML.out]at HQ HQL
 obtain⟨N,hN⟩:∃N,N=10+M+10:=⟨_,rfl⟩
 rw[<-hN]at HQ HQL
 have hNI:(M:Int)+20=(N:Int):=by omega
 have hNle:¬(65536:Int)<(N:Int):=by omega
 have haN2:10<N:=by omega
 have haNI:(10:Int)<=(N:Int):=by omega
 obtain⟨wm,hmk,hgm,hXm⟩:=xM w2 N C0
 have HF1:Hid (N<=1000000):=B0 C0
 have HXM:Hid (Ext w w2):=B0 (HX9.out.trans hx2)
 generalize Ln.quiet m 10 10=qs at*
 obtain⟨w5,hcp,hg5,hx5⟩:=xO (T:=3) (w:=w2) (wm:=wm) (a:=10) (N:=N) (m:=m) (n:=M) (b0:=b0) (o0:=o0) (cv:=cv) hgm hXm (hu2.1.ext hXm) HML.out.symm C0 haN2
 have HG5:=B0 hg5
 have HX5:Hid (Ext w w5):=B0 (HXM.out.trans hx5)
 clear hu2 hx2 hx0 hgm hXm hg5 hx5 hN
 have HO5:Hid (SlK w5 (.slice (some ⟨w2.heap.size,0,none⟩) N N) (qs.map encT)):=B0 (by have h1:=HG5.out;rw[HQ.out]at h1;exact(UX (B:=0) h1 (by rw[N0,HQL.out]) HF1.out (U0 _)).slk)
 go_wp2
 go_ret2
 rw[HF.out]
 exact⟨_,rfl,by rw[HROW.out];exact HO5.out,HX5.out⟩
end
end Go.Proofs.YtbngggoccndefaaGreatDoor
