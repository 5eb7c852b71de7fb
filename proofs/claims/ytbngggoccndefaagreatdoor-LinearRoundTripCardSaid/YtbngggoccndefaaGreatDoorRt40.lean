/-
  Laid.
-/
import Derived.Test.YtbngggoccndefaaGreatDoorRt23
import Derived.Test.YtbngggoccndefaaGreatDoorRt39
set_option maxHeartbeats 8000000
set_option maxRecDepth 100000
set_option linter.all false
namespace Go.Proofs.YtbngggoccndefaaGreatDoor
open Go.Proofs.Tryz
section
open Go.RowKit
def clsW (ws:List Bool):List Int:=ws.map fun b=>if b then 3 else 1
theorem mX {fn:Func} {p:Tmp} {ty:TypeId} (h:fn.results= #[.cell p ty]) (tmps:Array Value) (P:Program) (w:World):
 (results fn tmps).run P w=((asAddr (tmps.getD p undef)).run P w).andThen fun a w₁=>(loadVar ty a).run P w₁:=by
 simp only[results,h]
 simp[SG,Result.andThen]
theorem mY {fn:Func} {p:Tmp} (h:fn.results= #[.cell p 126]) {tmps:Array Value} {w:World} {g:Nat} {t:TypeId} {x y:Value}
 (hp:tmps.getD p undef=.pointer (some ⟨g,0,none⟩)) (hg:w.heap[g]? =some (.cells #[x,y] t (0,0))):
 (results fn tmps).run prog w=.ok (.agg #[x,y]) w:=by
 rw[mX h,hp]
 simp only[asAddr,SH,SI]
 rw[JQ w g t _ #[x,y] (0,0) _ hg underlying126 rfl M0]
theorem WV {w:World} {b:Nat} {x y:Value} {t:TypeId} (h:w.heap[b]? =some (.cells #[x,y] t (0,0))):
 b<w.heap.size∧w.cell? ⟨b,0,none⟩=some x∧w.cell? ⟨b,1,none⟩=some y∧w.frozen? ⟨b,0,none⟩=false∧w.frozen? ⟨b,1,none⟩=false:=
 ⟨(F3.1 h).1,Zk h rfl,Zk h rfl,ZL h,ZL h⟩
theorem OR {l:List Int} {x:Int} {i n:Nat} (hn:l.length=n) (h:l[i]? =some x):(l.take i++List.replicate (n-i) (0:Int)).set i x=l.take (i+1)++List.replicate (n-(i+1)) 0:=xJ hn h
def mZ (l:List Int) (t:Int) (w:World) (e:Ending) (w':World):Prop:=∃a c,e=.returned (.agg #[.slice a l.length c,.int .i64 t])∧Own 3 w' w.heap.size (.slice a l.length c) (l.map encI)∧Ext w w'
theorem nA (v:Value) (bs:List Bool) (w:World) (hv:Sl w v (bs.map encT)) (hl:bs.length<=400000):
 Calls prog 155 #[v] w (mZ (clsW bs) (Rn.sum (clsW bs)) w):=by
 obtain⟨a,c,rfl⟩:=hv.form
 rw[N0]at hv⊢
 obtain⟨n,hn⟩:∃n,n=bs.length:=⟨_,rfl⟩
 rw[<-hn]at hv hl⊢
 have HN:=B0 hn
 have HV:=B0 hv
 obtain⟨L,hL⟩:∃L,L=clsW bs:=⟨_,rfl⟩
 rw[<-hL]
 have hLl:L.length=n:=by rw[hL,clsW,N0,hn]
 have HLL:=B0 hLl
 have HL:Hid (∀(j:Nat) (b:Bool),bs[j]? =some b->L[j]? =some (if b then(3:Int)else 1)):=B0 (fun j b h=>by rw[hL,clsW,X2,h];rfl)
 clear hv hn hL hLl
 obtain⟨w0,hw0⟩:∃w0,w0=w.alloc (.cells #[.slice none 0 0,.int .i64 0] 126):=⟨_,rfl⟩
 have hX0:Ext w w0:=by rw[hw0];exact(Ext.refl w).alloc _
 have hR0:w0.heap[w.heap.size]? =some (.cells #[.slice none 0 0,.int .i64 0] 126 (0,0)):=by rw[hw0];exact UO
 have hS0:w0.heap.size=w.heap.size+1:=by rw[hw0];simp
 obtain⟨wm,hmk,hOm,hXm⟩:=WH w0 n (w.heap.size+1) C0 C0
 have hgl:w0.heap.size<wm.heap.size:=(J4 hOm _ rfl).2
 have HOm:=B0 hOm
 have HXm:=B0 (hX0.trans hXm)
 have HRm:=B0 (Zb hR0 hXm)
 rw[hS0]at hmk HOm hgl
 rw[hw0]at hmk
 have HGL:=B0 hgl
 clear hX0 hR0 hS0 hOm hXm hgl hw0
 go_enter func155,ntmps155
 go_wp2_with fail
 go_loopw [12] (fun t wr=>∃(j:Nat) (tot:Int),j<=n∧t=.int .i64 (j:Int)∧0<=tot∧tot<=3*(j:Int)∧Hid (tot=Rn.sum (L.take j))∧Hid (wr.heap[w.heap.size]? =some (.cells #[.slice none 0 0,.int .i64 0] 126 (0,0)))∧Hid (wr.heap[wm.heap.size]? =some (.cells #[.slice (some ⟨w.heap.size+1,0,none⟩) n n,.int .i64 tot] 126 (0,0)))∧Hid (Own 3 wr (w.heap.size+1) (.slice (some ⟨w.heap.size+1,0,none⟩) n n) ((L.take j++List.replicate (n-j) (0:Int)).map encI))∧Hid (Ext w wr)) (fun t _=>n-(intOf t).toNat)
 case atStart=>exact⟨0,0,U0 _,rfl,by decide,by decide,B0 rfl,B0 (Zb HRm.out ((Ext.refl _).alloc _)),B0 (E2 wm _),B0 (HOm.out.alloc _),B0 (HXm.out.alloc _)⟩
 case round=>
 clear HOm HXm HRm hmk
 obtain⟨j,tot,hj,rfl,ht0,ht1,HT,HR,HB,HO,HX⟩:=hrel
 have hgl:=HGL.out
 have hrl:=(F3.1 HB.out).1
 have hgr:w.heap.size+1<wr.heap.size:=by omega
 by_cases hlt:j<n
 ·obtain⟨b,hbj⟩:∃b,bs[j]? =some b:=⟨_,P0 U3⟩
  obtain⟨bb,o,ha,hb,hc⟩:=HV.out.bool_at HX.out hbj
  subst ha
  have hjI:(j:Int)<(n:Int):=by omega
  have hLj:=HL.out j b hbj
  obtain⟨-,e0,e1,e2,e3⟩:=WV HB.out
  have hlen:(L.take j++List.replicate (n-j) (0:Int)).length=n:=by rw[O0,L1,C3,HLL.out];omega
  obtain⟨xo,co,fo⟩:=HO.out.intAt (i:=j) (by rw[hlen];exact hlt)
  have hn1:wm.heap.size≠w.heap.size+1:=by omega
  have hn2:w.heap.size+1≠wm.heap.size:=by omega
  have hn3:wm.heap.size≠w.heap.size:=by omega
  have hn4:w.heap.size+1≠w.heap.size:=by omega
  have hbn:bb≠w.heap.size+1:=by omega
  have hbn2:bb≠wm.heap.size:=by omega
  have HX9:=B0 HX.out
  cases b with
  |true=>rw[G0 rfl]at hLj;have hO9:=((HO.out.putI j 1).1.putI j 3).1;rw[List.set_set,OR HLL.out hLj]at hO9;have hT9:tot+3=Rn.sum (L.take (j+1)):=kY;have HO9:=B0 hO9;have HT9:=B0 hT9;clear hO9 hT9 hLj hbj;go_wp2_with fail;go_region;go_wp2_with fail;go_roundw;(case rel=>exact⟨j+1,tot+3,by omega,by go_num,by omega,by omega,HT9,B0 (Zx hn3 (Zx hn4 (Zx hn4 HR.out))),B0 (Zi (Zx hn2 (Zx hn2 HB.out))),B0 (HO9.out.set (Zx hn2 (Zx hn2 HB.out)) J0 _ _),B0 (((HX.out.setCell (p:=⟨w.heap.size+1,j,none⟩) (D3 _) _).setCell (p:=⟨w.heap.size+1,j,none⟩) (D3 _) _).setCell (p:=⟨wm.heap.size,1,none⟩) (by show w.heap.size<=wm.heap.size;omega) _).drew⟩);case measure=>exact Qr
  |false=>rw[D0 J0]at hLj;have hO9:=(HO.out.putI j 1).1;rw[OR HLL.out hLj]at hO9;have hT9:tot+1=Rn.sum (L.take (j+1)):=kY;have HO9:=B0 hO9;have HT9:=B0 hT9;clear hO9 hT9 hLj hbj;go_wp2_with fail;go_region;go_wp2_with fail;go_roundw;(case rel=>exact⟨j+1,tot+1,by omega,by go_num,by omega,by omega,HT9,B0 (Zx hn3 (Zx hn4 HR.out)),B0 (Zi (Zx hn2 HB.out)),B0 (HO9.out.set (Zx hn2 HB.out) J0 _ _),B0 ((HX.out.setCell (p:=⟨w.heap.size+1,j,none⟩) (D3 _) _).setCell (p:=⟨wm.heap.size,1,none⟩) (by show w.heap.size<=wm.heap.size;omega) _).drew⟩);case measure=>exact Qr
 ·obtain rfl:n=j:=C0;have hO:=HO.out;rw[O3,WI,B3,P1 (by rw[HLL.out];exact I0 _)]at hO;have hT:=HT.out;rw[P1 (by rw[HLL.out];exact I0 _)]at hT;have HK:=B0 hO;have HT9:=B0 hT;obtain⟨-,e0,e1,e2,e3⟩:=WV HB.out;obtain⟨-,d0,d1,d2,d3⟩:=WV HR.out;clear hO hT hlt hj;go_wp2_with fail;refine R1 (mY results155 rfl (Zi (Zi HR.out))) rfl ?_;rw[HT9.out];refine⟨_,n,by rw[HLL.out],?_,(HX.out.setCell (p:=⟨w.heap.size,0,none⟩) (I0 _) _).setCell (p:=⟨w.heap.size,1,none⟩) (I0 _) _⟩;rw[HLL.out];exact((HK.out.set HR.out J0 _ _).set (Zi HR.out) J0 _ _).mono (D3 _)
theorem nB (k:Nat) (l:List UInt8) (r:Int) (check:Bool):(Tw.encK k l r check).1.length<=100000:=by
 unfold Tw.encK
 repeat' split
 all_goals first|exact U0 _|skip
 rename_i h1 h2 h3 h4
 have e:(Tw.widths r (Tw.drawK k (Tw.compK k l check).1)).length=(Tw.drawK k (Tw.compK k l check).1).length:=N0 _
 dsimp only
 rw[e]
 have a:=RG k (Tw.compK k l check).1
 have b:=kA k l check
 omega
theorem kZ (kind:Int) (l:List UInt8) (r:Int) (check:Bool):(Tw.enc kind l r check).1.length<=100000:=by
 unfold Tw.enc
 repeat' split
 all_goals first|exact nB _ _ _ _|exact U0 _
theorem nC {ws:List Int} (h:(Rn.modules ws).2=0):1<=(Rn.modules ws).1.length∧(Rn.modules ws).1.length<=65536:=by
 obtain⟨h1,h2,h3⟩:=Ln.modules_ok h;rw[h3];have h4:=Rn.mods_len ws true h2;have h5:=Rn.sum_pos ws h2;have h6:¬65536<Rn.sum ws:=fun h6=>by unfold Rn.modules at h;split at h;(·cases h);·split at h;(·cases h);·split at h;(·cases h);·first|cases h|(rw[G0 h6]at h;cases h)
 omega
theorem nD (k:Int) (s:ByteArray) (r:Int) (ck:Bool) (a:ByteArray) (hs:s.size<=1000) (w:World):
 Calls prog 29 #[.int .i64 k,.string s,.agg #[.int .i64 r,.bool ck,.string a]] w (ZT (Ln.encTwo k s.data.toList r ck) w):=by
 have HE:=B0 (fun w=>kE k s r ck a w C0)
 have HX:=B0 (Ln.encTwo.eq_1 k s.data.toList r ck)
 have hb:=kZ k s.data.toList r ck
 generalize Ln.encTwo k s.data.toList r ck=res at*
 generalize Tw.enc k s.data.toList r ck=en at*
 obtain⟨ws,er⟩:=en
 dsimp only at HX hb
 by_cases h0:er=0
 ·subst h0;rw[D0 J0]at HX;have HMB:=B0 (fun h=> @nC ws h);have HM:=B0 (fun(v:Value) (w:World) hv=>KY v ws w hv C0);generalize Rn.modules ws=mo at*;obtain⟨m,e2⟩:=mo;dsimp only at HX HMB;by_cases h2:e2=0;(·subst h2;rw[D0 J0]at HX;obtain⟨hm1,hm2⟩:=HMB.out rfl;have HSU:=B0 (fun(v:Value) (w:World) hv=>xP v m 10 10 w hv C0 hm1 C0 C0);generalize Ln.quiet m 10 10=qs at*;clear hb hm1 hm2 HMB;go_enter func29,ntmps29;go_wp2_with fail;refine(HE.out _).mono ?_;rintro e w1 ⟨u,rfl,hu,hx1⟩;go_wp2_with fail;refine(HM.out _ _ hu).mono ?_;rintro e w2 ⟨u2,rfl,hu2,hx2⟩;go_wp2_with fail;refine(HSU.out _ _ hu2.1).mono ?_;rintro e w3 ⟨u3,rfl,hu3,hx3⟩;go_wp2;go_ret2;rw[HX.out];exact⟨_,rfl,hu3,((((Ext.refl w).alloc _).trans hx1).trans hx2).trans hx3⟩);·have hz:(e2 !=0)=true:=N2.2 h2;rw[G0 h2]at HX;clear h2 hb HMB;go_enter func29,ntmps29;go_wp2_with fail;refine(HE.out _).mono ?_;rintro e w1 ⟨u,rfl,hu,hx1⟩;go_wp2_with fail;refine(HM.out _ _ hu).mono ?_;rintro e w2 ⟨u2,rfl,hu2,hx2⟩;go_wp2;go_ret2;rw[HX.out];exact⟨_,rfl,SlK.nil _,(((Ext.refl w).alloc _).trans hx1).trans hx2⟩
 ·have hz:(er !=0)=true:=N2.2 h0;rw[G0 h0]at HX;clear h0 hb;go_enter func29,ntmps29;go_wp2_with fail;refine(HE.out _).mono ?_;rintro e w1 ⟨u,rfl,hu,hx1⟩;go_wp2;go_ret2;rw[HX.out];exact⟨_,rfl,SlK.nil _,((Ext.refl w).alloc _).trans hx1⟩
theorem nE {l:List UInt8} {j:Nat} {x:UInt8} (h:l[j]? =some x):(Gs.ints l)[j]? =some (x.toNat:Int):=by unfold Gs.ints;rw[X2,h];rfl
theorem nF (s:ByteArray) (hs:s.size<=1000) (w:World):
 Calls prog 30 #[.string s] w (ZT (Ln.encCode s.data.toList) w):=by
 have hsl:s.data.toList.length=s.size:=Za s
 have HNL:=B0 hsl
 obtain⟨wm,hmk,hOm,hXm⟩:=WH w s.size w.heap.size C0 (I0 _)
 have HOm:=B0 hOm
 have HXm:=B0 hXm
 have HX:=B0 (Ln.encCode.eq_1 s.data.toList)
 have HCE:=B0 (fun(v:Value) (w:World) hv hok=>kC v (Gs.ints s.data.toList) w hv (by rw[ZH,hsl];omega) hok)
 generalize Ln.encCode s.data.toList=res at*
 have HIL:Hid ((Gs.ints s.data.toList).length=s.size):=B0 (by rw[ZH,hsl])
 clear hOm hXm hsl
 go_enter func30,ntmps30
 go_wp2_with fail
 go_loopw [11] (fun t wr=>∃j:Nat,j<=s.size∧t=.int .i64 (j:Int)∧Hid (∀b∈s.data.toList.take j,b.toNat<=127)∧Hid (Own 3 wr w.heap.size (.slice (some ⟨w.heap.size,0,none⟩) s.size s.size) (((Gs.ints s.data.toList).take j++List.replicate (s.size-j) (0:Int)).map encI))∧Hid (Ext w wr)) (fun t _=>s.size-(intOf t).toNat)
 case atStart=>exact⟨0,U0 _,rfl,B0 (fun b hb=>by cases hb),HOm,HXm⟩
 case round=>
 clear HOm HXm hmk
 rename World=>wr
 obtain⟨j,hj,rfl,HA,HO,HXW⟩:=hrel
 by_cases hlt:j<s.size
 ·have hjI:(j:Int)<(s.size:Int):=C0;have h1:s.data.toList[j]? =some s[j]:=P0 PF;obtain⟨b,hb⟩:∃b,s[j]=b:=⟨_,rfl⟩;rw[hb]at h1;have HI:=B0 (nE h1);by_cases h7:127<b.toNat;(·have h7I:(127:Int)<(b.toNat:Int):=C0;have hany:s.data.toList.any (fun c=>decide (127<c.toNat))=true:=J8.2 ⟨b,I1 h1,F1 h7⟩;rw[G0 hany]at HX;clear h1 h7 hany;go_wp2_with fail;go_ret2;rw[HX.out];exact⟨_,rfl,SlK.nil _,HXW.out⟩);·have h7I:¬(127:Int)<(b.toNat:Int):=C0;have HA2:Hid (∀b∈s.data.toList.take (j+1),b.toNat<=127):=B0 (fun c hc=>by rw[R5,h1]at hc;rcases M2.1 hc with hc|hc;(·exact HA.out c hc);·simp at hc;subst hc;omega);have hlen:((Gs.ints s.data.toList).take j++List.replicate (s.size-j) (0:Int)).length=s.size:=(by rw[O0,L1,C3,HIL.out];omega);obtain⟨xo,co,fo⟩:=HO.out.intAt (i:=j) (by rw[hlen];exact hlt);have hO9:=(HO.out.putI j (b.toNat:Int)).1;rw[OR HIL.out HI.out]at hO9;have HO9:=B0 hO9;have HX9:Hid (Ext w (wr.setCell ⟨w.heap.size,j,none⟩ (.int .i64 (b.toNat:Int)))):=B0 (HXW.out.setCell (p:=⟨w.heap.size,j,none⟩) (I0 _) _);clear h1 h7 hO9 hlen;go_wp2_with fail;go_roundw;(case rel=>exact⟨j+1,by omega,by go_num,HA2,HO9,HX9⟩);case measure=>exact Qr
 obtain rfl:j=s.size:=by omega
 have hall:s.data.toList.any (fun c=>decide (127<c.toNat))=false:=by have h:=HA.out;rw[P1 (by rw[HNL.out];exact I0 _)]at h;rw[S8];intro b hb h2;have:=h b hb;have:=N3 h2;omega
 rw[hall,D0 Bool.noConfusion]at HX
 have HOK:=B0 (Ln.okC_ints hall)
 have HO2:Hid (Own 3 wr w.heap.size (.slice (some ⟨w.heap.size,0,none⟩) s.size s.size) ((Gs.ints s.data.toList).map encI)):=B0 (by have h:=HO.out;rw[O3,WI,B3,P1 (by rw[HIL.out];exact I0 _)]at h;exact h)
 clear hall HA HO hj hlt
 go_wp2_with fail
 refine(HCE.out _ _ HO2.out.sl HOK.out).mono ?_
 rintro e w5 ⟨u,rfl,hu,hx5⟩
 go_wp2
 go_ret2
 rw[HX.out]
 exact⟨_,rfl,hu,HXW.out.trans hx5⟩
theorem jA:∀xs:List Gs.El,(Gs.chG xs).length<=(xs.flatMap Gs.fmtE).length
 | []=>by simp[Gs.chG]
 |x::xs=>by have ih:=jA xs;unfold Gs.chG;rw[P5,O0,O0,O0,ZH,O0];have h2:(Gs.fmtE x).length=x.1.length+x.2.length+2:=(by unfold Gs.fmtE;exact E1);have h3:(if Gs.fixed x.1 || xs.isEmpty then([]:List Int)else [256]).length<=1:=(by split<;>simp);omega
theorem jB {l:List UInt8} {xs:List Gs.El} (h:Gs.parse l=(xs,0)):Gs.verL xs=0∧xs.flatMap Gs.fmtE=l∧xs.length<=l.length:=by
 have hf:=yW h;unfold Gs.format at hf;split at hf;·rename_i h1;simp only[A3]at hf;exact absurd hf.2 h1
 ·rename_i h1;split at hf;(·simp at hf)
  ·simp only[A3,F5]at hf;refine⟨OQ (M3 h1),hf,?_⟩;rw[<-hf];have:∀ys:List Gs.El,ys.length<=(ys.flatMap Gs.fmtE).length:=by
    intro ys
    induction ys with
    |nil=>simp
    |cons y ys ih=>rw[P5,O0,S0];have:1<=(Gs.fmtE y).length:=(by unfold Gs.fmtE;simp);omega
   exact this xs
theorem nG (s:ByteArray) (hs:s.size<=900) (w:World) (ht:ZB w):
 Calls prog 31 #[.string s] w (ZT (Ln.encGs s.data.toList) w):=by
 have hsl:s.data.toList.length=s.size:=Za s
 have HP:=B0 (kR s G5 w ht)
 have HX:=B0 (Ln.encGs.eq_1 s.data.toList)
 have HFA:=B0 (fun xs h=> @jB s.data.toList xs h)
 have HT:=B0 ht
 generalize Ln.encGs s.data.toList=res at*
 generalize Gs.parse s.data.toList=pr at*
 obtain⟨xs,e1⟩:=pr
 dsimp only at HX
 clear ht
 by_cases h1:e1=0
 ·subst h1;rw[D0 J0]at HX;obtain⟨g1,g2,g3⟩:=HFA.out xs rfl;have hcl:(256::Gs.chG xs).length<=1000:=(by have:=jA xs;rw[g2,hsl]at this;rw[S0];omega);have hxl:xs.length<=1000:=C0;(have hsz:∀x∈xs,x.1.length<=maxLen∧x.2.length<=maxLen:=fun x hx=>by have:=WU (TN g1 x hx);exact F7);have HC:=B0 (fun(v:Value) (w:World) hv ht=>mW v xs w hv C0 hsz ht);have HCO:=B0 (fun c h=> @Ln.chars_okC xs c h);have HCL:Hid (∀c,Gs.chars xs=(c,0)->c.length<=1000):=B0 (fun c h=>by unfold Gs.chars at h;split at h;(·rename_i h5;simp only[A3]at h;exact absurd h.2 h5);·split at h;(·simp at h);·simp only[A3,F5]at h;rw[<-h];exact hcl);generalize Gs.chars xs=ch at*;obtain⟨cs,e2⟩:=ch;dsimp only at HX;clear g1 g2 g3 hcl hsz HFA hsl;by_cases h2:e2=0;(·subst h2;rw[D0 J0]at HX;have hok:=(HCO.out cs rfl).1;have hcl:=HCL.out cs rfl;have HEN:=B0 (fun(v:Value) (w:World) hv=>kC v cs w hv hcl hok);clear hok hcl HCO HCL;go_enter func31,ntmps31;go_wp2_with fail;refine HP.out.mono ?_;rintro e w1 ⟨u,rfl,hu,hx1⟩;have HT1:=B0 (Zj HT.out hx1);go_wp2_with fail;refine(HC.out _ _ hu HT1.out).mono ?_;rintro e w2 ⟨u2,rfl,hu2,hx2⟩;go_wp2_with fail;refine(HEN.out _ _ hu2.1).mono ?_;rintro e w3 ⟨u3,rfl,hu3,hx3⟩;go_wp2;go_ret2;rw[HX.out];exact⟨_,rfl,hu3,(hx1.trans hx2).trans hx3⟩);·have hz:(e2 !=0)=true:=N2.2 h2;rw[G0 h2]at HX;clear h2 HCO HCL;go_enter func31,ntmps31;go_wp2_with fail;refine HP.out.mono ?_;rintro e w1 ⟨u,rfl,hu,hx1⟩;have HT1:=B0 (Zj HT.out hx1);go_wp2_with fail;refine(HC.out _ _ hu HT1.out).mono ?_;rintro e w2 ⟨u2,rfl,hu2,hx2⟩;go_wp2;go_ret2;rw[HX.out];exact⟨_,rfl,SlK.nil _,hx1.trans hx2⟩
 ·have hz:(e1 !=0)=true:=N2.2 h1;rw[G0 h1]at HX;clear h1 HFA;go_enter func31,ntmps31;go_wp2_with fail;refine HP.out.mono ?_;rintro e w1 ⟨u,rfl,hu,hx1⟩;go_wp2;go_ret2;rw[HX.out];exact⟨_,rfl,SlK.nil _,hx1⟩
theorem nH (k:Int) (hk:k=5∨k=6∨k=7) (s:ByteArray) (r:Int) (ck:Bool) (a:ByteArray) (hs:s.size<=60) (w:World):
 Calls prog 10 #[.int .i64 k,.string s,.agg #[.int .i64 r,.bool ck,.string a]] w (ZT (Ln.encFin (Ln.encTwo k s.data.toList r ck)) w):=by
 have HE:=B0 (fun(w':World) (_:Ext w w')=>nD k s r ck a C0 w')
 generalize Ln.encTwo k s.data.toList r ck=res at*
 obtain⟨m,er⟩:=res
 have HX:=B0 (Ln.encFin.eq_1 (m,er))
 dsimp only at HX
 generalize Ln.encFin (m,er)=out at*
 by_cases h0:er=0
 ·subst h0;rw[D0 J0]at HX;by_cases hl:65536<m.length;(·have hlI:65536<(m.length:Int):=C0;rw[G0 hl]at HX;clear hl;rcases hk with rfl|rfl|rfl;all_goals go_enter func10,ntmps10;go_wp2_with fail;refine(HE.out _ ((Ext.refl w).alloc _)).mono ?_;rintro e w1 ⟨v1,rfl,hv1,hx1⟩;obtain⟨-,a1,c1,rfl,-⟩:=hv1;rw[N0];go_wp2;go_ret2;exact⟨_,by rw[HX.out];rfl,by rw[HX.out];exact SlK.nil _,((Ext.refl w).alloc _).trans hx1⟩);·have hlI:¬65536<(m.length:Int):=C0;rw[D0 hl]at HX;clear hl;rcases hk with rfl|rfl|rfl;all_goals go_enter func10,ntmps10;go_wp2_with fail;refine(HE.out _ ((Ext.refl w).alloc _)).mono ?_;rintro e w1 ⟨v1,rfl,hv1,hx1⟩;have HV:=B0 hv1;obtain⟨-,a1,c1,rfl,-⟩:=hv1;dsimp only at HV;rw[N0]at HV⊢;go_wp2;go_ret2;exact⟨_,by rw[HX.out];rfl,by rw[HX.out];exact HV.out,((Ext.refl w).alloc _).trans hx1⟩
 ·have hb:(er !=0)=true:=N2.2 h0;rw[G0 h0]at HX;clear h0;rcases hk with rfl|rfl|rfl;all_goals go_enter func10,ntmps10;go_wp2_with fail;refine(HE.out _ ((Ext.refl w).alloc _)).mono ?_;rintro e w1 ⟨v1,rfl,hv1,hx1⟩;go_wp2;go_ret2;exact⟨_,by rw[HX.out];rfl,by rw[HX.out];exact SlK.nil _,((Ext.refl w).alloc _).trans hx1⟩
theorem nI (k:Int) (hk:k=8) (s:ByteArray) (r:Int) (ck:Bool) (a:ByteArray) (hs:s.size<=60) (w:World):
 Calls prog 10 #[.int .i64 k,.string s,.agg #[.int .i64 r,.bool ck,.string a]] w (ZT (Ln.encFin (Ln.encCode s.data.toList)) w):=by
 have HE:=B0 (fun(w':World) (_:Ext w w')=>nF s C0 w')
 generalize Ln.encCode s.data.toList=res at*
 obtain⟨m,er⟩:=res
 have HX:=B0 (Ln.encFin.eq_1 (m,er))
 dsimp only at HX
 generalize Ln.encFin (m,er)=out at*
 by_cases h0:er=0
 ·exact Qu
 ·exact Q0
theorem nJ (k:Int) (hk:k=9) (s:ByteArray) (r:Int) (ck:Bool) (a:ByteArray) (hs:s.size<=60) (w:World) (ht:ZB w):
 Calls prog 10 #[.int .i64 k,.string s,.agg #[.int .i64 r,.bool ck,.string a]] w (ZT (Ln.encFin (Ln.encGs s.data.toList)) w):=by
 have HE:=B0 (fun(w':World) (h:Ext w w')=>nG s C0 w' (Zj ht h))
 generalize Ln.encGs s.data.toList=res at*
 obtain⟨m,er⟩:=res
 have HX:=B0 (Ln.encFin.eq_1 (m,er))
 dsimp only at HX
 generalize Ln.encFin (m,er)=out at*
 by_cases h0:er=0
 ·exact Qu
 ·exact Q0
theorem nK (k:Int) (h:k≠1∧k≠2∧k≠3∧k≠4∧k≠5∧k≠6∧k≠7∧k≠8∧k≠9) (s:ByteArray) (r:Int) (ck:Bool) (a:ByteArray) (w:World):
 Calls prog 10 #[.int .i64 k,.string s,.agg #[.int .i64 r,.bool ck,.string a]] w (ZT ([],1) w):=by
 obtain⟨h1,h2,h3,h4,h5,h6,h7,h8,h9⟩:=h
 have z1:(k==1)=false:=V0.2 h1
 have z2:(k==2)=false:=V0.2 h2
 have z3:(k==3)=false:=V0.2 h3
 have z4:(k==4)=false:=V0.2 h4
 have z5:(k==5)=false:=V0.2 h5
 have z6:(k==6)=false:=V0.2 h6
 have z7:(k==7)=false:=V0.2 h7
 have z8:(k==8)=false:=V0.2 h8
 have z9:(k==9)=false:=V0.2 h9
 clear h1 h2 h3 h4 h5 h6 h7 h8 h9
 go_enter func10,ntmps10
 go_wp2
 go_ret2
 exact⟨_,rfl,SlK.nil _,(Ext.refl w).alloc _⟩
theorem nL (k:Int) (s:ByteArray) (r:Int) (ck:Bool) (a:ByteArray) (hs:s.size<=60) (ha:a.size<=60) (w:World) (ht:ZB w):
 Calls prog 10 #[.int .i64 k,.string s,.agg #[.int .i64 r,.bool ck,.string a]] w (ZT (Ln.encode k s.data.toList r ck a.data.toList) w):=by
 unfold Ln.encode Ln.encAny
 by_cases h1:k=1∨k=2∨k=3∨k=4
 ·rw[G0 h1];exact yT k h1 s r ck a C0 C0 w
 rw[D0 h1]
 by_cases h5:k=5∨k=6∨k=7
 ·rw[G0 h5];exact nH k h5 s r ck a hs w
 rw[D0 h5]
 by_cases h8:k=8
 ·rw[G0 h8];exact nI k h8 s r ck a hs w
 rw[D0 h8]
 by_cases h9:k=9
 ·rw[G0 h9];exact nJ k h9 s r ck a hs w ht
 rw[D0 h9]
 exact nK k C0 s r ck a w
abbrev Cd:=(Option Addr×Nat×Nat)×Int
def cdV (x:Cd):Value:=.slice x.1.1 x.1.2.1 x.1.2.2
def cdC (xs:List Cd):List Value:=xs.flatMap fun x=>[cdV x,.int .i64 x.2]
theorem nM (xs:List Cd) (x:Cd):cdC (xs++[x])=cdC xs++[cdV x,.int .i64 x.2]:=by simp[cdC]
theorem nN (xs:List Cd):∀(i:Nat) (x:Cd),xs[i]? =some x->(cdC xs)[i*2]? =some (cdV x)∧(cdC xs)[i*2+1]? =some (.int .i64 x.2):=by
 induction xs with
 |nil=>intro i x h;simp at h
 |cons y ys ih=>
  intro i x h
  cases i with
  |zero=>simp only[E3,A2]at h;subst h;exact⟨rfl,rfl⟩
  |succ i=>rw[R3]at h;have:=ih i x h;have e1:(i+1)*2=i*2+1+1:=C0;rw[e1];simp only[cdC,P5,P2,E4,R3]at this⊢;exact R2
def COwn (w:World) (B:Nat) (v:Value) (xs:List Cd):Prop:=w.ownsRow B 126 2 v xs.length (cdC xs)
section
variable {w w':World} {B:Nat} {v:Value} {xs:List Cd}
theorem COwn.ext (h:COwn w B v xs) (hx:Ext w w'):COwn w' B v xs:=by
 refine T8 h hx.asGrown ?_
 cases hv:v.ownBlock with
 |none=>exact .inl rfl
 |some k=>exact .inr L0
theorem COwn.low (h:COwn w B v xs):∀k,v.ownBlock=some k->B<=k:=fun k hk=>(J4 h k hk).1
theorem Own.apart {T2:TypeId} {k n:Nat} {T:TypeId} {w:World} {B B2:Nat} {v v2:Value} {xs ys:List Value} (h:Own T w B v xs) (h2:w.ownsRow B2 T2 k v2 n ys) (hne:T≠T2):v.ownBlock=none∨v.ownBlock≠v2.ownBlock:=by
 rcases h.2 with⟨h1,_⟩|⟨g,cap,cur,h1,_,hg,_⟩;·exact .inl VX
 rcases h2.2 with⟨h3,_⟩|⟨g2,cap2,cur2,h3,_,hg2,_⟩;·exact .inr (by rw[h1,h3];simp[Value.ownBlock])
 ·refine .inr (fun e=> ?_);rw[h1,h3]at e;simp only[Value.ownBlock,A2]at e;subst e;rw[hg]at hg2;injection hg2 with hg2;injection hg2 with _ hg2;exact hne hg2
end
def ZE (w:World) (xs:List Cd) (ls:List (List Int)):Prop:=xs.length=ls.length∧∀(i:Nat) (x:Cd) (l:List Int),xs[i]? =some x->ls[i]? =some l->x.2=Rn.sum l∧x.1.2.1=l.length∧Own 3 w 0 (cdV x) (l.map encI)
theorem ZE.ext {w w':World} {xs:List Cd} {ls:List (List Int)} (h:ZE w xs ls) (hx:Ext w w'):ZE w' xs ls:=
 ⟨h.1,fun i x l h1 h2=>⟨(h.2 i x l h1 h2).1,(h.2 i x l h1 h2).2.1,(h.2 i x l h1 h2).2.2.ext hx⟩⟩
theorem ZE.grown {w w':World} {B:Nat} {v:Value} {xs ys:List Cd} {ls:List (List Int)} (h:ZE w xs ls) (ho:COwn w B v ys) (hg:w.grownBy w' v.ownBlock):ZE w' xs ls:=
 ⟨h.1,fun i x l h1 h2=>⟨(h.2 i x l h1 h2).1,(h.2 i x l h1 h2).2.1,(h.2 i x l h1 h2).2.2.kept hg ((h.2 i x l h1 h2).2.2.apart ho J0)⟩⟩
theorem ZE.snoc {w:World} {xs:List Cd} {ls:List (List Int)} (h:ZE w xs ls) {x:Cd} {l:List Int} (h1:x.2=Rn.sum l) (h2:x.1.2.1=l.length) (h3:Own 3 w 0 (cdV x) (l.map encI)):ZE w (xs++[x]) (ls++[l]):=by
 refine⟨by rw[O0,O0,h.1];rfl,fun i y k hy hk=> ?_⟩;by_cases hi:i<xs.length;·rw[YA hi]at hy;rw[YA (by rw[<-h.1];exact hi)]at hk;exact h.2 i y k hy hk
 ·have hlt:=(J1.1 hy).1;rw[O0,YP]at hlt;obtain rfl:i=xs.length:=C0;rw[XE (I0 _),O3]at hy;rw[h.1,XE (I0 _),O3]at hk;simp only[E3,A2]at hy hk;subst hy hk;exact⟨h1,h2,h3⟩
theorem ZE.one {w:World} {x:Cd} {l:List Int} (h1:x.2=Rn.sum l) (h2:x.1.2.1=l.length) (h3:Own 3 w 0 (cdV x) (l.map encI)):ZE w [x] [l]:=
 ZE.snoc (xs:=[]) (ls:=[]) ⟨rfl,fun i x l h=>by simp at h⟩ h1 h2 h3
def CSl (w:World) (v:Value) (ls:List (List Int)):Prop:=∃b c xs,v=.slice (some ⟨b,0,none⟩) ls.length c∧b<w.heap.size∧ZE w xs ls∧∀(i:Nat) (x:Cd),xs[i]? =some x->w.cell? ⟨b,i*2,none⟩=some (cdV x)∧w.cell? ⟨b,i*2+1,none⟩=some (.int .i64 x.2)
theorem CSl.of {w:World} {B:Nat} {v:Value} {xs:List Cd} {ls:List (List Int)} (h:COwn w B v xs) (hh:ZE w xs ls) (hne:ls≠ []):CSl w v ls:=by
 rcases h.2 with⟨_,h0⟩|⟨g,cap,cur,hv,hbase,hb,h1,h2,h3,h4⟩;·exact absurd (V2 (by rw[<-hh.1];exact h0)) hne
 ·refine⟨g,cap,xs,by rw[hv,hh.1],(F3.1 hb).1,hh,fun i x hi=> ?_⟩;have hc:=h;unfold COwn at hc;rw[hv]at hc;have hil:=(J1.1 hi).1;rw[hc.cellAt (i*2) C0,hc.cellAt (i*2+1) C0];exact nN xs i x hi
theorem nO:(prog.info? 126).map (fun i=>(i.zero,i.size,i.bytes))=some (some (.agg #[.slice none 0 0,.int .i64 0]),2,32):=Y0
theorem jC {w:World} {ops:Array Oper} {rest:List Oper} {o:Oper} {a:Act} {Q:Exit->Act->World->Prop} (hgd:o.guard=none) (s x:Operand)
 (ho:o.op=.call {callee:=.builtin .append,args:= #[s,x],argTypes:= #[123,123]})
 (B:Nat) (v:Value) (xs:List Cd) (hs:a.eval s=v) (hown:COwn w B v xs) (b:Nat) (u:Cd) (hx:a.eval x=.slice (some ⟨b,0,none⟩) 1 1)
 (hc:w.cell? ⟨b,0,none⟩=some (cdV u)) (hc1:w.cell? ⟨b,1,none⟩=some (.int .i64 u.2)) (hn:xs.length<=999999999) (hB:B<=w.heap.size)
 (h:∀v' w',COwn w' B v' (xs++[u])->w.grownBy w' v.ownBlock->wpList prog ops Q rest (a.put o.dst v') w'):wpList prog ops Q (o::rest) a w:=by
 obtain⟨i0,hi,hz0,hz1,hz2⟩:=C5 nO
 refine VN _ hgd s x 123 ho B 126 i0 _ 2 32 underlying123 hi hz0 hz1 hz2 rfl J0 v xs.length (cdC xs) hs hown ⟨b,0,none⟩ 1 1 [cdV u,.int .i64 u.2] hx rfl ?_ ?_ ?_ ?_ hB ?_
 ·intro j u' hj
  rw[VL]
  match j with
  |0=>simp only[E3,A2]at hj;subst hj;exact hc
  |1=>simp only[R3,E3,A2]at hj;subst hj;exact hc1
  |j+2=>simp at hj
 ·exact kH
 ·exact F7
 ·exact kI
 ·intro v' w' h1 h2 _;refine h v' w' ?_ h2;unfold COwn;rw[O0,nM];exact h1
theorem COwn.one {w:World} {B g:Nat} {x:Cd} (hg:w.heap[g]? =some (.cells #[cdV x,.int .i64 x.2] 126 (0,0))) (hB:B<=g):COwn w B (.slice (some ⟨g,0,none⟩) 1 1) [x]:=
 ⟨rfl,.inr ⟨g,1,_,rfl,hB,hg,I0 _,by unfold Go.maxLen;omega,rfl,rfl⟩⟩
end
end Go.Proofs.YtbngggoccndefaaGreatDoor
