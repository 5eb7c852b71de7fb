/-
  Laid together.
-/
import Derived.Test.YtbngggoccndefaaGreatDoorDd21
import Derived.Test.YtbngggoccndefaaGreatDoorDd34
import Derived.Test.YtbngggoccndefaaGreatDoorDd38
set_option maxHeartbeats 16000000
set_option maxRecDepth 100000
set_option linter.unusedVariables false
set_option linter.unusedSimpArgs false
set_option linter.ambiguousOpen false
namespace Go.Proofs.YtbngggoccndefaaGreatDoor
open Go.Proofs.Tryz
section
open Go.RowKit Go.Maps Go Go.WideMaps Go.WideShapes
theorem ZhF {P:Program} {k e:TypeId} {q:IntKind} (A:ArrKey P k e 6) (he:P.underlying e=some (.int q)) (hsz:∃m,P.types.size=m+1) {a b c d f g:Int} (wa:(Lit.int q a).wf=true) (wb:(Lit.int q b).wf=true) (wc:(Lit.int q c).wf=true) (wd:(Lit.int q d).wf=true) (wf:(Lit.int q f).wf=true) (wg:(Lit.int q g).wf=true):
 keyOf P k (.agg #[.int q a,.int q b,.int q c,.int q d,.int q f,.int q g])=some (.string (keyBytes [.int q a,.int q b,.int q c,.int q d,.int q f,.int q g])):=by
 have hkt:=A.keyType hsz
 obtain⟨m,hm⟩:=hsz
 unfold keyOf
 simp only[A.hu]
 rw[ZmH (by simp[hkt,Value.formed,A.hu,A.size]),hm]
 unfold Program.keyLits
 simp only[A.hu,Value.cells]
 rw[ZmH (by rw[A.size];rfl),show List.range 6=[0,1,2,3,4,5]from rfl,Zpq,Zpq,Zpq,Zpq,Zpq,Zpq,List.mapM_nil]
 simp[A.one,Program.keyLits,he,wa,wb,wc,wd,wf,wg]
def Cc.key (l:List Int):Value:=.agg (l.map encI).toArray
theorem Cc.key_inj (a b:List Int) (h:Cc.key a=Cc.key b):a=b:=by unfold Cc.key at h;injection h with h;have h:=List.toArray_inj h;exact(List.map_inj_right (fun x y e=>by unfold encI at e;injection e)).1 h
theorem Cc.arr6:ArrKey prog 172 3 6:=⟨underlying172,by kernel_rfl,by kernel_rfl,by kernel_rfl⟩
theorem Cc.laid:laidOutB prog=true:=Qdu
theorem Cc.keyed:Keyed prog 172:=
 Keyed.of_law (deep_law_laid Cc.laid (m:=2) QhN (Zok QhO) QhO (by rw[underlying172]))
theorem Cc.wf_of {x:Int} (h: -1000000<=x∧x<=1000000):(Lit.int .i64 x).wf=true:=by simp[Lit.wf];have:IntKind.i64.min= -9223372036854775808:=rfl;omega
theorem Cc.keyOf_six' {l:List Int} (h6:l.length=6) (hb:∀x∈l,-1000000<=x∧x<=1000000):∃t,keyOf prog 172 (Cc.key l)=some t:=by
 match l,h6 with
 | [a,b,c,d,f,g],_=>exact⟨_,ZhF Cc.arr6 underlying3 ⟨prog.types.size-1,by kernel_rfl⟩ (Cc.wf_of (hb a QhQ)) (Cc.wf_of (hb b QhQ)) (Cc.wf_of (hb c QhQ)) (Cc.wf_of (hb d QhQ)) (Cc.wf_of (hb f QhQ)) (Cc.wf_of (hb g QhQ))⟩
def Cc.fTo (n:Nat) (w:List Int):Option Int:=((Cc.pats.take n).findIdx? fun p=>p==w).map fun(i:Nat)=>(i:Int)
theorem Cc.fTo_zero:Cc.fTo 0=fun _=>none:=rfl
theorem Cc.fTo_all:Cc.fTo 106=fun w=>(Cc.valOf w).map fun(i:Nat)=>(i:Int):=rfl
theorem Cc.pats_nodup:Cc.pats.Nodup:=Qct
theorem Cc.pats_len:Cc.pats.length=106:=rfl
theorem Cc.fTo_succ (n:Nat) (hn:n<106):Cc.fTo (n+1)=fun w=>if w=Cc.pats.getD n []then some (n:Int)else Cc.fTo n w:=by
 funext w;have hp:Cc.pats[n]? =some (Cc.pats.getD n []):=by rw[ZmL,ZmG (by rw[Cc.pats_len];exact hn)];rfl
 obtain⟨p,hpp⟩:∃p,p=Cc.pats.getD n []:=⟨_,rfl⟩;rw[<-hpp]at hp⊢;have hnd:=Cc.pats_nodup;have ht:Cc.pats.take (n+1)=Cc.pats.take n++[p]:=by rw[Zo4,hp];rfl
 have hl:(Cc.pats.take n).length=n:=by rw[ZmY,Cc.pats_len];omega
 unfold Cc.fTo;rw[ht,List.findIdx?_append];by_cases hw:w=p;·subst hw;rw[ZmH rfl];have hnot:(Cc.pats.take n).findIdx? (fun q=>q==w)=none:=(by rw[ZpI];intro x hx;refine ZmJ.2 fun e=> ?_;subst e;have h2:(Cc.pats.take (n+1)).Nodup:=hnd.sublist (List.take_sublist _ _);rw[ht,List.nodup_append]at h2;exact h2.2.2 x hx x (Znz.2 rfl) rfl);rw[hnot];simp[hl]
 ·rw[ZmF hw];have:([p]:List (List Int)).findIdx? (fun q=>q==w)=none:=(by rw[ZpI];intro x hx;rw[Znz]at hx;subst hx;exact ZmJ.2 fun e=>hw e.symm);rw[this];simp
theorem Rn.mem_sum {l:List Int} (h:∀x∈l,1<=x):∀x∈l,x<=Rn.sum l:=by
 induction l with
 |nil=>intro x hx;cases hx
 |cons y l ih=>intro x hx;have h1:=h y (Znh ..);have h2:=Rn.sum_pos l (fun z hz=>h z (Zne _ hz));rw[Rn.sum_cons];rcases Zn8.1 hx with rfl|hx;(·omega);·have:=ih (fun z hz=>h z (Zne _ hz)) x hx;omega
theorem Rn.widths_in (s:List Bool):(∀x∈Rn.widths s,1<=x∧x<=(s.length:Int))∧(Rn.widths s).length<=s.length:=by have hp:=Rn.widths_pos s;have h1:=Rn.mods_len (Rn.widths s) true hp;rw[Rn.mods_widths]at h1;have h2:=Rn.core_le s;have h3:=Rn.sum_pos _ hp;exact⟨fun x hx=>⟨hp x hx,by have:=Rn.mem_sum hp x hx;omega⟩,by omega⟩
theorem Sl.range6 {w wr:World} {b o n c:Nat} {ws:List Int} (h:Sl w (.slice (some ⟨b,o,none⟩) n c) (ws.map encI)) (hx:Ext w wr) (i:Nat):wr.rangeAt b (o+i) (((ws.drop i).take 6).map encI):=by
 intro j v hj;rw[Znm,Zog]at hj;split at hj
 ·rw[Zp3]at hj
  cases hw:ws[i+j]? with
  |none=>rw[hw]at hj;cases hj
  |some x=>rw[hw]at hj;obtain⟨b',o',ha,_,hc⟩:=h.int_at hx hw;injection ha with ha;injection ha with h1 h2;subst h1 h2;rw[<-Nat.add_assoc]at hc;rw[hc];exact hj
 ·cases hj
theorem ZfU {w:World} {a:Option Addr} {c:Nat}:(Instr.arrayAt 172 (.slice a 6 c)).run prog w=.ok (.pointer a) w:=by unfold Instr.arrayAt;rw[Zq6,Zpo underlying172 w];rfl
end
end Go.Proofs.YtbngggoccndefaaGreatDoor
namespace Go.Proofs.YtbngggoccndefaaGreatDoor
open Go.Proofs.Tryz
section
open Go.RowKit
def RdR (o:Option Ln.Lin) (w:World) (e:Ending) (w':World):Prop:=
 ∃(x:Ln.Lin),e=.returned (.tuple #[linV x.1 x.2.1 x.2.2,.bool o.isSome])∧(o.isSome=true->o=some x)∧Ext w w'
theorem RdR.none {w w':World} (h:Ext w w'):RdR none w (.returned (.tuple #[.agg #[.int .i64 0,.string ⟨#[]⟩,.string ⟨#[]⟩],.bool false])) w':=⟨Ln.zero,rfl,(fun h=>by cases h),h⟩
theorem RdR.some {w w':World} {k:Int} {t:List UInt8} (h:Ext w w'):RdR (some (k,t,[])) w (.returned (.tuple #[.agg #[.int .i64 k,.string (Ea.bS t),.string ⟨#[]⟩],.bool true])) w':=⟨(k,t,[]),rfl,fun _=>rfl,h⟩
theorem ZL {w w':World} {o:Obj} {x y z:Value} {t:TypeId} (h:Ext ((w.alloc o).alloc (.cells #[x,y,z] t)) w'):w'.heap[w.heap.size+1]? =some (.cells #[x,y,z] t (0,0)):=
 Zo QhQ h
theorem Zp {w w':World} {b:Nat} (h:Ext w w') (hb:w.heap.size<=b) (p q r:Value):Ext w (((w'.setCell ⟨b,0,none⟩ p).setCell ⟨b,1,none⟩ q).setCell ⟨b,2,none⟩ r):=((h.setCell hb _).setCell hb _).setCell hb _
theorem ZcJ (kind:Int) (v:Value) (m:List Bool) (w:World) (hv:SlK w v (m.map encT)) (hm:m.length<=1000000):
 Calls prog 81 #[.agg #[v],.int .i64 kind] w (RdR (Ln.rTwo kind m) w):=by
 obtain⟨res,hres⟩:∃res,res=Ln.rTwo kind m:=⟨_,rfl⟩
 rw[<-hres]
 unfold Ln.rTwo at hres
 have HW:=ZmE (fun w' (h:Ext w w')=>ZbH v m w' (hv.ext h) hm)
 have hwl:(Rn.widths m).length<=1000000:=ZnF (Rn.widths_in m).2 hm
 obtain⟨ws,hws⟩:∃ws,ws=Rn.widths m:=⟨_,rfl⟩
 rw[<-hws]at HW hres hwl
 have HD:=ZmE (fun v w' (h:Sl w' v (ws.map encI))=>Zfd kind v ws false w' h hwl)
 obtain⟨⟨t,er⟩,hd⟩:∃r,r=Tw.dec kind ws false:=⟨_,rfl⟩
 rw[<-hd]at HD hres
 have HR:=ZmE hres
 obtain⟨-,a,c,rfl,-⟩:=hv
 rw[ZmI]at HW⊢
 generalize m.length=ml at*
 obtain⟨T,hT⟩:∃T,T=Ea.bS t:=⟨_,rfl⟩
 have HT:=ZmE hT
 have HD2:Hid (∀v w',Sl w' v (ws.map encI)->Calls prog 21 #[.int .i64 kind,v,.bool false] w' fun e w''=>e=.returned (.tuple #[.string T,.int .i64 er])∧Ext w' w''):=ZmE (fun v w' h=>by rw[hT];exact HD.out v w' h)
 clear hws hd hres hT HD
 by_cases he:er=0
 ·have HF:Hid (res=some (kind,t,[])):=ZmE QjS;subst he;clear HR;go_enter func81,ntmps81;go_wp2_with fail;refine(HW.out _ Xf).mono ?_;rintro e w1 ⟨u,rfl,hu,hx1⟩;have HU:=ZmE hu;clear hu;go_wp2_with fail;refine(HD2.out u w1 HU.out.1).mono ?_;rintro e w2 ⟨rfl,hx2⟩;obtain⟨f0,f1,f2,f3,f4,f5,f6,f7⟩:=Zf (ZL (hx1.trans hx2));have hxw:=(hx1.trans hx2).before.before;clear hx1 hx2;go_wp2_with fail;refine Zng (Ze results81 rfl (Zg f7) rfl) rfl ?_;rw[HF.out];rw[HT.out];exact Qg7
 ·have HF:Hid (res=none):=ZmE (by rw[HR.out,ZmF he]);have z:(er !=0)=true:=(by simp[he]);have zd:decide (er=0)=false:=ZmS he;clear HR he;go_enter func81,ntmps81;go_wp2_with fail;refine(HW.out _ Xf).mono ?_;rintro e w1 ⟨u,rfl,hu,hx1⟩;have HU:=ZmE hu;clear hu;go_wp2_with fail;refine(HD2.out u w1 HU.out.1).mono ?_;rintro e w2 ⟨rfl,hx2⟩;obtain⟨f0,f1,f2,f3,f4,f5,f6,f7⟩:=Zf (ZL (hx1.trans hx2));have hxw:=(hx1.trans hx2).before.before;clear hx1 hx2;go_wp2_with fail;refine Zng (Ze results81 rfl (Zg f7) rfl) rfl ?_;rw[HF.out];exact QcZ
theorem ZkT (v:Value) (m:List Bool) (w:World) (hv:SlK w v (m.map encT)) (hm:m.length<=1000000):
 Calls prog 36 #[.agg #[v]] w (RdR (Ln.rTwo 5 m) w):=by
 have HW:=ZmE (fun w' (h:Ext w w')=>ZcJ 5 v m w' (hv.ext h) hm)
 obtain⟨-,a,c,rfl,-⟩:=hv
 rw[ZmI]at HW⊢
 generalize m.length=ml at*
 generalize Ln.rTwo 5 m=res at*
 go_enter func36,ntmps36
 go_wp2_with fail
 refine(HW.out _ Xf).mono ?_
 rintro e w1 ⟨⟨k,t,ad⟩,rfl,ho,hx1⟩
 have HO:=ZmE ho
 obtain⟨f0,f1,f2,f3,f4,f5,f6,f7⟩:=Zf (ZL hx1)
 have hxw:=hx1.before.before
 unfold linV
 dsimp only
 clear hx1 ho
 go_wp2_with fail
 refine Zng (Ze results36 rfl (Zg f7) rfl) rfl ?_
 exact⟨(k,t,ad),rfl,HO.out,Zp hxw (ZnI _) _ _ _⟩
theorem Zj6 (v:Value) (m:List Bool) (w:World) (hv:SlK w v (m.map encT)) (hm:m.length<=1000000):
 Calls prog 37 #[.agg #[v]] w (RdR (Ln.rTwo 6 m) w):=by
 have HW:=ZmE (fun w' (h:Ext w w')=>ZcJ 6 v m w' (hv.ext h) hm)
 obtain⟨-,a,c,rfl,-⟩:=hv
 rw[ZmI]at HW⊢
 generalize m.length=ml at*
 generalize Ln.rTwo 6 m=res at*
 go_enter func37,ntmps37
 go_wp2_with fail
 refine(HW.out _ Xf).mono ?_
 rintro e w1 ⟨⟨k,t,ad⟩,rfl,ho,hx1⟩
 have HO:=ZmE ho
 obtain⟨f0,f1,f2,f3,f4,f5,f6,f7⟩:=Zf (ZL hx1)
 have hxw:=hx1.before.before
 unfold linV
 dsimp only
 clear hx1 ho
 go_wp2_with fail
 refine Zng (Ze results37 rfl (Zg f7) rfl) rfl ?_
 exact⟨(k,t,ad),rfl,HO.out,Zp hxw (ZnI _) _ _ _⟩
theorem Zj8 (v:Value) (m:List Bool) (w:World) (hv:SlK w v (m.map encT)) (hm:m.length<=1000000):
 Calls prog 38 #[.agg #[v]] w (RdR (Ln.rTwo 7 m) w):=by
 have HW:=ZmE (fun w' (h:Ext w w')=>ZcJ 7 v m w' (hv.ext h) hm)
 obtain⟨-,a,c,rfl,-⟩:=hv
 rw[ZmI]at HW⊢
 generalize m.length=ml at*
 generalize Ln.rTwo 7 m=res at*
 go_enter func38,ntmps38
 go_wp2_with fail
 refine(HW.out _ Xf).mono ?_
 rintro e w1 ⟨⟨k,t,ad⟩,rfl,ho,hx1⟩
 have HO:=ZmE ho
 obtain⟨f0,f1,f2,f3,f4,f5,f6,f7⟩:=Zf (ZL hx1)
 have hxw:=hx1.before.before
 unfold linV
 dsimp only
 clear hx1 ho
 go_wp2_with fail
 refine Zng (Ze results38 rfl (Zg f7) rfl) rfl ?_
 exact⟨(k,t,ad),rfl,HO.out,Zp hxw (ZnI _) _ _ _⟩
theorem Zj7 (v:Value) (m:List Bool) (w:World) (hv:SlK w v (m.map encT)) (hm:m.length<=1000000):
 Calls prog 34 #[.agg #[v]] w (RdR (Ln.rEan m) w):=by
 have HW:=ZmE (fun w' (h:Ext w w')=>Zgy v m w' (hv.ext h) hm)
 obtain⟨res,hres⟩:∃res,res=Ln.rEan m:=⟨_,rfl⟩
 rw[<-hres]
 unfold Ln.rEan at hres
 obtain⟨⟨⟨k,t,ad⟩,er⟩,hd⟩:∃r,r=Ea.dec m:=⟨_,rfl⟩
 rw[<-hd]at HW hres
 have HR:=ZmE hres
 obtain⟨-,a,c,rfl,-⟩:=hv
 rw[ZmI]at HW⊢
 generalize m.length=ml at*
 unfold gotV linV at HW
 dsimp only at HW
 obtain⟨bb,hbb⟩:∃bb,bb=(er==0):=⟨_,rfl⟩
 have HF:Hid (bb=res.isSome∧(res.isSome=true->res=some (k,t,ad))):=ZmE (by rw[hbb,HR.out];dsimp only;by_cases he:er=0;(·exact QfF);·rw[ZmF he];simp[he])
 have hbe:=hbb.symm
 clear hd hres hbb HR
 go_enter func34,ntmps34
 go_wp2_with fail
 refine(HW.out _ Xf).mono ?_
 rintro e w1 ⟨rfl,hx1⟩
 obtain⟨f0,f1,f2,f3,f4,f5,f6,f7⟩:=Zf (ZL hx1)
 have hxw:=hx1.before.before
 clear hx1
 go_wp2_with fail
 refine Zng (Ze results34 rfl (Zd (Zg f7) ((Ext.refl _).alloc _)) rfl) rfl ?_
 exact⟨(k,t,ad),by rw[HF.out.1];rfl,HF.out.2,(Zp hxw (ZnI _) _ _ _).alloc _⟩
end
end Go.Proofs.YtbngggoccndefaaGreatDoor
namespace Go.Proofs.YtbngggoccndefaaGreatDoor
open Go.Proofs.Tryz
section
open Go.RowKit Go.Maps Go
theorem Zib {l:List Int} (h:l.length=6):∃a b c d e f,l=[a,b,c,d,e,f]:=by
 match l,h with
 | [a,b,c,d,e,f],_=>exact⟨a,b,c,d,e,f,rfl⟩
theorem ZdW {w:World} {b o:Nat} {x0 x1 x2 x3 x4 x5:Int} (h:w.rangeAt b o (([x0,x1,x2,x3,x4,x5]:List Int).map encI)):w.cell? ⟨b,o,none⟩=some (.int .i64 x0)∧w.cell? ⟨b,o+1,none⟩=some (.int .i64 x1)∧w.cell? ⟨b,o+2,none⟩=some (.int .i64 x2)∧w.cell? ⟨b,o+3,none⟩=some (.int .i64 x3)∧w.cell? ⟨b,o+4,none⟩=some (.int .i64 x4)∧w.cell? ⟨b,o+5,none⟩=some (.int .i64 x5):=
 ⟨h 0 _ rfl,h 1 _ rfl,h 2 _ rfl,h 3 _ rfl,h 4 _ rfl,h 5 _ rfl⟩
theorem Zfl (v:Value) (m:List Bool) (w:World) (hv:SlK w v (m.map encT)) (hm:m.length<=400000):
 Calls prog 79 #[v] w (IntsE (Cc.dec m) w):=by
 have HMG:=ZmE (Za9 v m w hv QhN)
 have HWD:=ZmE (ZbH v m w hv QhN)
 obtain⟨hwin,hwlen⟩:=Rn.widths_in m
 obtain⟨hsl,ca,cc,rfl,-⟩:=hv
 rw[ZmI]at hsl HMG HWD⊢
 obtain⟨A,hA⟩:∃A,A=Ea.ldg m:=⟨_,rfl⟩
 obtain⟨B,hB⟩:∃B,B=Ea.trl m:=⟨_,rfl⟩
 have hcore:Rn.core m=[]↔A=m.length:=by rcases Rn.row_split m with⟨h1,_,h3,_⟩|⟨q,h1,_,h3⟩;(·rw[hA,h3];exact⟨fun _=>rfl,fun _=>h1⟩);·have h4:=Znb List.length h3;rw[ZmM,ZmM,Zns,Zns,h1,ZmQ]at h4;rw[h1,hA];exact⟨fun h=>by(cases h),fun h=>by omega⟩
 rw[<-hA,<-hB]at HMG
 have HR:=ZmE (Cc.dec.eq_1 m)
 rw[<-hA,<-hB]at HR
 obtain⟨ws,hws⟩:∃ws,ws=Rn.widths m:=⟨_,rfl⟩
 rw[<-hws]at HR HWD hwin hwlen
 generalize Cc.dec m=res at*
 obtain⟨M,hM⟩:∃M,M=m.length:=⟨_,rfl⟩
 rw[<-hM]at hsl HMG HWD hm hcore hwin hwlen⊢
 have HSL:=ZmE hsl
 clear hA hB hws hM hsl
 by_cases hAM:A=M
 ·have z1:((A:Int)==(M:Int))=true:=Znj.2 QhN;have HF:Hid (res=([],5)):=ZmE (by rw[HR.out,ZmH (hcore.2 hAM)]);clear HR hcore hAM;exact Qgm
 have z1:((A:Int)==(M:Int))=false:=ZmJ.2 QhN
 have HR1:Hid (res=_):=ZmE (HR.out.trans (ZmF (fun h=>hAM (hcore.1 h))))
 clear HR hcore hAM
 by_cases hq:A<10∨B<10
 ·have HF:Hid (res=([],9)):=ZmE (by rw[HR1.out,ZmH hq]);clear HR1;by_cases hA10:A<10;(·have hAI:(A:Int)<10:=QhN;clear hq;exact Qgm);·have hAI:¬(A:Int)<10:=QhN;have hBI:(B:Int)<10:=QhN;clear hq;exact Qgm
 have HR2:Hid (res=_):=ZmE (HR1.out.trans (ZmF hq))
 have hAI:¬(A:Int)<10:=by omega
 have hBI:¬(B:Int)<10:=by omega
 clear HR1 hq
 obtain⟨n,hn⟩:∃n,n=ws.length:=⟨_,rfl⟩
 rw[<-hn]at HR2 hwlen
 have HNW:=ZmE hn
 clear hn
 by_cases hk:n<19∨(n-7)%6≠0
 ·have HF:Hid (res=([],7)):=ZmE (by rw[HR2.out,ZmH hk]);clear HR2;by_cases hn19:n<19;(·have hnI:(n:Int)-7<12:=QhN;clear hk;exact QbZ);·have hnI:¬(n:Int)-7<12:=QhN;obtain⟨k,hkk⟩:∃k,k=n-7:=⟨_,rfl⟩;have hkI:(n:Int)-7=(k:Int):=QhN;obtain⟨r,hr⟩:∃r:Int,r=(k:Int)%6:=⟨_,rfl⟩;have hr2:=hr.symm;have hrI:r≠0:=QhN;have hrb:(r !=0)=true:=(by simp[hrI]);have hrd:decide (r=0)=false:=ZmS hrI;have hnI:¬(k:Int)<12:=QhN;clear hk hkk hr;exact QbZ
 have HR3:Hid (res=_):=ZmE (HR2.out.trans (ZmF hk))
 obtain⟨k,hkk⟩:∃k,k=n-7:=⟨_,rfl⟩
 obtain⟨K,hK⟩:∃K,K=k/6:=⟨_,rfl⟩
 rw[<-hkk,<-hK]at HR3
 have hkI:(n:Int)-7=(k:Int):=by omega
 have hk12:¬(k:Int)<12:=by omega
 have hp6:(k:Int)%6=0:=by omega
 have hkK:k=6*K:=by omega
 have hk0I:(0:Int)<=(k:Int):=by omega
 have hkn:k<=n:=by omega
 have hknI:(k:Int)<=(n:Int):=by omega
 have hwk:IntKind.i64.wrap (k:Int)=(k:Int):=ZnB _ QhN
 have HKK:=ZmE hkK
 clear HR2 hk hkk hK hkK
 go_enter func79,ntmps79
 go_wp2_with fail
 refine HMG.out.mono ?_
 rintro e w1 ⟨rfl,rfl⟩
 go_wp2_with fail
 refine HWD.out.mono ?_
 rintro e w1 ⟨u,rfl,⟨hs,a,c,rfl,hc⟩,hx1⟩
 have hnw:=HNW.out
 rw[ZmI,<-hnw]at hs hc⊢
 obtain⟨x0,hx0⟩:∃x,ws[0]? =some x:=⟨_,ZmG QhN⟩
 obtain⟨b,o,ha,hb,-⟩:=hs.int_at (Ext.refl w1) hx0
 subst ha
 have HS:=ZmE hs
 have hknc:k<=c:=by omega
 have HSD:Hid (∀w',Ext w1 w'->SlK w' (.slice (some ⟨b,o+k,none⟩) (n-k) (c-k)) ((ws.drop k).map encI)):=ZmE (fun w' hx=>by have h1:=HS.out.part k n (c-k) QhR hkn;rw[<-Zn5,<-Zn6,ZmW QhN]at h1;exact⟨Sl.ext h1 hx,_,_,by rw[ZmI,Znr,<-hnw],by rw[ZmI,Znr];omega⟩)
 have HST:=ZmE (fun w=>Zcy 106 w (ZmK _))
 clear hnw hx0 hs
 go_wp2_with fail
 obtain⟨db,hdb⟩:∃db,db=decide (ws.drop k=Cc.stopP):=⟨_,rfl⟩
 have HDB:=ZmE hdb
 clear hdb
 refine wp_region_rel 5 1 rfl [41,42,43,44,45] [[],[],[0,1],[],[2,3]] QhO QhO ?_
 apply relPlan_eq'
 ·intro V w' hx hf;(with_reducible refine relAt_ops ?_);intro A ρ hA hρ hcst hfun;have h6:ρ (.tmp 6)=.slice (some ⟨b,o,none⟩) n c:=(Znf hρ _).trans (evalMiss hA 6 rfl);exact QQ
 apply relPlan_eq'
 ·intro V w' hx hf;(with_reducible refine relAt_ops ?_);intro A ρ hA hρ hcst hfun;have h7:ρ (.tmp 7)=.int .i64 (k:Int):=(Znf hρ _).trans (evalMiss hA 7 rfl);exact relUpon_move (hk:=by rw[h7];exact⟨Ext.refl _,rfl⟩)
 refine relPlan_by (fun v w=>SlK w v ((ws.drop k).map encI)) (fun _ _ _ h hx=>h.ext hx) ?_ ?_
 ·intro V w' hx hf;(with_reducible refine relAt_ops ?_);intro A ρ hA hρ hcst hfun;obtain⟨f41,f42,_⟩:=hf;have h41:ρ (.tmp 41)=_:=(Znf hρ _).trans ((evalHit hA 41 rfl).trans f41);have h42:ρ (.tmp 42)=_:=(Znf hρ _).trans ((evalHit hA 42 rfl).trans f42);have hq:=HSD.out w' hx;simp[relUpon,go_sem,hcst,↓IntWalk.iteOmega,Ext.refl,h41,h42,hwk,hk0I,hknI,hkn,hknc];rw[Zn6]at hq;exact hq
 refine relPlan_by (fun v w=>SlK w v (Cc.stopP.map encI)) (fun _ _ _ h hx=>h.ext hx) ?_ ?_
 ·intro V w' hx hf;(with_reducible refine relAt_ops ?_);intro A ρ hA hρ hcst hfun;simp[relUpon,go_sem,hcst,hfun];exact(HST.out w').mono fun e w'' ⟨u,he,hs,hy⟩=>⟨u,he,hy,hs⟩
 refine relPlan_by (eqv (.bool db)) (eqv_stable _) ?_ ?_
 ·intro V w' hx hf;(with_reducible refine relAt_ops ?_);intro A ρ hA hρ hcst hfun;obtain⟨f43,f44,_⟩:=hf;have h43:ρ (.tmp 43)=V 43:=(Znf hρ _).trans (evalHit hA 43 rfl);have h44:ρ (.tmp 44)=V 44:=(Znf hρ _).trans (evalHit hA 44 rfl);simp[relUpon,go_sem,hcst,hfun,h43,h44];exact(Zg2 (V 43) (V 44) (ws.drop k) Cc.stopP w' f43.1 f44.1 (by rw[Znr];have:=HNW.out;omega) QhP).mono fun e w'' ⟨he,q,hw⟩=>⟨_,he,by rw[hw];exact(Ext.refl _).drewN _,by rw[HDB.out];rfl⟩
 intro V wT hxT hf
 obtain⟨-,-,-,-,g45,-⟩:=hf
 simp only[fillA,ZmX,Zni,Act.put,ZmO,ZmV,ZmU]
 have q45:V 45=_:=g45
 rw[q45]
 refine Za 5 QhO rfl (fun K5 hK5=> ?_)
 go_simp
 refine hK5 _ _ ?_
 clear hK5 K5
 refine⟨rfl,?_⟩
 have hxw:=hx1.trans hxT
 clear g45 q45
 by_cases hst:ws.drop k≠Cc.stopP
 ·have HF:Hid (res=([],20)):=ZmE (HR3.out.trans (ZmH hst));obtain rfl:db=false:=(by rw[HDB.out];exact ZmS hst);clear HR3 hst;go_wp2;go_ret2;rw[HF.out];exact IntsE.bad _ _ _ hxw
 have HR4:Hid (res=_):=ZmE (HR3.out.trans (ZmF hst))
 obtain rfl:db=true:=by rw[HDB.out];exact ZmR (ZnH.1 hst)
 clear HR3 hst HSD HST
 have hmm:= @run_makeMap prog
 have hmade:=MapV.made (P:=prog) (k:=172) (key:=Cc.key) wT
 rw[<-Cc.fTo_zero]at hmade
 have HMade:=ZmE hmade
 have HBX:=ZmE (Ext.refl wT)
 clear hmade
 clear HMG HWD HSL
 have hxw':=ZmE hxw
 have HX1:=ZmE (hx1)
 clear hxw
 go_wp2_with fail
 have HST:=ZmE (fun v w hv=>Zcy v w hv)
 go_loopw [48] (fun t wr=>∃i:Nat,i<=106∧t=.int .i64 (i:Int)∧Hid (MapV prog 172 Cc.key wr wT.heap.size i (Cc.fTo i))∧Hid (Ext wT wr)) (fun t _=>106-(intOf t).toNat)
 case atStart=>exact⟨0,ZmP _,rfl,HMade,ZmE ((Ext.refl wT).alloc _)⟩
 case round=>
 clear HMade HBX
 obtain⟨i,hi,rfl,HM,HX⟩:=hrel
 by_cases hlt:i<106
 ·have hiI:(i:Int)<106:=QhN;obtain⟨pl,pin⟩:=Cc.pat_in i hlt;have ew:Cc.widOf i=Cc.pats.getD i []:=(by rw[Cc.widOf,ZmF QhN]);go_wp2_with fail;refine(HST.out i wr QhN).mono ?_;rintro e w2 ⟨u,rfl,⟨hu,a2,c2,rfl,-⟩,hx2⟩;rw[ew]at hu;rw[ew,ZmI,pl];rw[ZmI,pl]at hu;obtain⟨y0,hy0⟩:∃x,(Cc.pats.getD i [])[0]? =some x:=⟨_,ZmG (by rw[pl];decide)⟩;obtain⟨b2,o2,ha,hb2,-⟩:=hu.int_at (Ext.refl w2) hy0;subst ha;have hrg:=hu.range6 (Ext.refl w2) 0;rw[Zoh,ZmW (by rw[pl];exact ZmK _),Zoc]at hrg;obtain⟨y0,y1,y2,y3,y4,y5,hl6⟩:=Zib pl;rw[hl6]at hrg;obtain⟨hc0,hc1,hc2,hc3,hc4,hc5⟩:=ZdW hrg;have hap:= @ZfU w2 (some ⟨b2,o2,none⟩) c2;obtain⟨kl,hkl⟩:=Cc.keyOf_six' pl (fun x hx=>by have:=pin x hx;omega);have hM2:=HM.out.kept hx2.asGrown QhQ;obtain⟨w3,hup,hM3,hg3⟩:=hM2.put (T:=171) Cc.keyed underlying171 hkl (i:Int) QhX Cc.key_inj;rw[<-Cc.fTo_succ i hlt]at hM3;rw[hl6]at hup;have hup:(Instr.mapUpdate 171 (.map (some wT.heap.size)) (.agg #[.int .i64 y0,.int .i64 y1,.int .i64 y2,.int .i64 y3,.int .i64 y4,.int .i64 y5]) (.int .i64 (i:Int))).run prog w2=_:=hup;have HM3:=ZmE hM3;have HX3:=ZmE ((HX.out.trans hx2).ofGrown hg3 (fun q hq=>by injection hq with hq;omega));clear hM3 hg3 hM2 hkl hrg hu hy0 HM HX pin ew pl hl6;go_wp2_with fail;go_roundw;(case rel=>exact⟨_,_,_,_,_,_,_,_,_,_,_,⟨i+1,by omega,by go_num,HM3,HX3⟩,rfl⟩);case measure=>exact Qak
 obtain rfl:i=106:=by omega
 rw[Cc.fTo_all]at HM
 clear hi hlt HST
 have hmlt:wT.heap.size<wr.heap.size:=HM.out.lt
 obtain⟨mb,hmb⟩:∃mb,mb=wT.heap.size:=⟨_,rfl⟩
 rw[<-hmb]at HM hmlt⊢
 have HMB:=ZmE hmb
 have HSZ:Hid (mb+1<=wr.heap.size):=ZmE hmlt
 clear hmlt hmb
 go_wp2_with fail
 go_loopw [10,11] (fun u t wq=>∃(j:Nat) (out:List Int),j<=K∧t=.int .i64 ((6*j:Nat):Int)∧out.length<=j∧Hid (Cc.valsGo K ws=(Cc.valsGo (K-j) (ws.drop (6*j))).map (out++·))∧Hid (Own 3 wq (mb+1) u (out.map encI))∧Hid (MapV prog 172 Cc.key wq mb 106 fun w=>(Cc.valOf w).map fun(i:Nat)=>(i:Int))∧Hid (Ext wT wq)∧Hid (mb+1<=wq.heap.size)) (fun _ t _=>k-(intOf t).toNat)
 case atStart=>exact⟨0,[],ZmP _,rfl,ZmK _,ZmE Qi1,ZmE (Own.nil _ _ _),HM,HX,HSZ⟩
 case round=>
 clear HM HX HSZ
 obtain⟨j,out,hj,rfl,hol,HV,HO,HM,HX,HSZ⟩:=hrel
 obtain⟨p,hp⟩:∃p,p=6*j:=⟨_,rfl⟩
 rw[<-hp]at HV⊢
 have hkK:=HKK.out
 by_cases hlt:j<K
 ·obtain⟨q,hq⟩:∃q,q=p+6:=⟨_,rfl⟩
  have hqI:(p:Int)+6=(q:Int):=by omega
  have hqp:q-p=6:=by omega
  have hpk:(p:Int)<(k:Int):=by omega
  have hpq:p<=q:=by omega
  have hpqI:(p:Int)<=(q:Int):=by omega
  have hqc:q<=c:=by omega
  have hqcI:(q:Int)<=(c:Int):=by omega
  have hqk:q<=k:=by omega
  have h6:((ws.drop p).take 6).length=6:=by rw[ZmY,Znr,<-HNW.out];omega
  obtain⟨y0,y1,y2,y3,y4,y5,hl6⟩:=Zib h6
  have hrg:=HS.out.range6 (hxT.trans HX.out) p
  obtain⟨kl,hkl⟩:=Cc.keyOf_six' h6 (fun x hx=>by have:=hwin x (Zof (Zn0 hx));omega)
  have hget:=HM.out.get (T:=171) (e:=3) Cc.keyed underlying171 QhO hkl
  have hvs:Cc.valsGo (K-j) (ws.drop p)=match Cc.valOf ((ws.drop p).take 6)with|none=>none|some v=>(Cc.valsGo (K-(j+1)) (ws.drop q)).map fun l=>(v:Int)::l:=Qfv
  rw[hvs]at HV
  rw[hl6]at hrg hget
  rw[hl6]at HV
  obtain⟨hc0,hc1,hc2,hc3,hc4,hc5⟩:=ZdW hrg
  have hap:=fun c'=> @ZfU wr (some ⟨b,o+p,none⟩) c'
  have hget:(Instr.lookup 171 (.map (some mb)) (.agg #[.int .i64 y0,.int .i64 y1,.int .i64 y2,.int .i64 y3,.int .i64 y4,.int .i64 y5]) true).run prog wr=_:=hget
  clear hkl hrg h6 hl6 hvs
  cases hvo:Cc.valOf [y0,y1,y2,y3,y4,y5]with
  |none=>rw[hvo]at HV hget;have HF:Hid (res=([],18)):=ZmE (by rw[HR4.out,HV.out];rfl);have hxw:=hxw'.out.trans HX.out;simp only[Option.map_none,Option.getD_none,Zqr]at hget;clear HV HR4 hp hq hkK hj hol hlt hqk HO HM HX HSZ;go_wp2_with fail;go_ret2;rw[HF.out];exact IntsE.bad _ _ _ hxw
  |some v=>rw[hvo]at HV hget;simp only[ZoV,Option.getD_some,Zqs]at hget;have HV2:Hid (Cc.valsGo K ws=(Cc.valsGo (K-(j+1)) (ws.drop q)).map ((out++[(v:Int)])++·)):=ZmE Qjk;have hown:=HO.out;have hsz:=HSZ.out;have hol2:(out++[(v:Int)]).length<=j+1:=QbW;have hol9:out.length<=400000:=QhN;have hq6:6*(j+1)=q:=QhN;have hmes:k-q<k-p:=QhN;clear HV hp hq hkK HO hvo;go_wp2_with (at_builtin;refine Zm rfl _ _ rfl (mb+1) _ out rfl (hown.alloc _) _ (v:Int) rfl ?c1 ?c2 ?c3 ?_);(case c1=>exact QbU);(case c2=>omega);(case c3=>exact Qa3);intro v' w5 hown5 hg5;have hgm:=HMB.out;have HX5:=ZmE ((HX.out.alloc _).ofGrown hg5 (fun r hr=>by have:=hown.low r hr;omega));have HM5:=ZmE ((HM.out.kept ((Ext.refl wr).alloc (.cells #[.int .i64 (v:Int)] 3)).asGrown QhQ).kept hg5 (fun e=>by have:=hown.low _ e;omega));have HSZ5:Hid (mb+1<=w5.heap.size):=ZmE (ZnF hsz (ZnF QhQ hg5.size));have HO5:Hid (Own 3 w5 (mb+1) v' ((out++[(v:Int)]).map encI)):=ZmE QhT;clear hown hown5 hg5 hsz hgm HM HX HSZ hget;go_wp2_with fail;refine⟨⟨_,_,_,_,_,_,_,_,_,_,_,_,_,_,_,_,_,_,_,_,_,_,_,_,_,_,_,_,_,⟨j+1,_,by omega,by rw[hq6],hol2,by rw[hq6];exact HV2,HO5,HM5,HX5,HSZ5⟩,rfl⟩,?_⟩;(simp[intOf];try omega)
 ·obtain rfl:K=j:=QhN;have HF:Hid (res=Cc.chars (out++[106])):=ZmE QjL;have hpk:¬(p:Int)<(k:Int):=QhN;have hown:=HO.out;have hsz:=HSZ.out;have hol2:(out++[(106:Int)]).length<=400000:=QbW;have hol9:out.length<=400000:=QhN;have HXT:=hxw';clear HV HR4 hp hkK HO HM hj hlt;go_wp2_with (at_builtin;refine Zm rfl _ _ rfl (mb+1) _ out rfl (hown.alloc _) _ 106 rfl ?c1 ?c2 ?c3 ?_);(case c1=>exact QbU);(case c2=>omega);(case c3=>exact Qa3);intro v' w5 hown5 hg5;have hgm:=HMB.out;have HX5:=ZmE (HXT.out.trans ((HX.out.alloc _).ofGrown hg5 (fun r hr=>by have:=hown.low r hr;omega)));have hk5:SlK w5 v' ((out++[(106:Int)]).map encI):=(by have h:Own 3 w5 (mb+1) v' ((out++[(106:Int)]).map encI):=QaQ;exact h.slk);have HCH:=ZmE (Zi0 v' (out++[106]) w5 hk5 hol2);clear hown hown5 hg5 hsz hgm hk5;exact QcW
end
end Go.Proofs.YtbngggoccndefaaGreatDoor
namespace Go.Proofs.YtbngggoccndefaaGreatDoor
open Go.Proofs.Tryz
section
open Go.RowKit
theorem ZhH {xs:List Gs.El} (h:Gs.verL xs=0):∀x∈xs,x.1.length<=maxLen∧x.2.length<=maxLen:=by intro x hx;have:=Zbo (ZcL h x hx);exact QeT
theorem Zk2 {xs:List Gs.El} (h:Gs.verL xs=0):xs.length<=(Gs.chG xs).length:=by
 induction xs with
 |nil=>simp
 |cons x xs ih=>obtain⟨h0,h1⟩:=ZdY h;obtain⟨r,h2,_⟩:=ZcM h0;have h3:=(ZaK h2).1;have h4:=ih h1;simp only[Gs.chG,ZmM,ZeH,ZmQ];omega
theorem Zgd {xs:List Gs.El} {c:List Int} (h:Gs.frChars c=(xs,0)):xs.length<=4096∧∀x∈xs,x.1.length<=maxLen∧x.2.length<=maxLen:=by
 have h:=Zef h;unfold Gs.chars at h;split at h;·exact Qd9
 ·split at h;(·simp at h);·rename_i h1 h2;have h3:=Zbu (ZnT h1);have:=Zk2 h3;rw[ZmQ]at h2;exact⟨by omega,ZhH h3⟩
theorem Zg6 (v:Value) (m:List Bool) (w:World) (hv:Sl w v (m.map encT)) (hm:m.length<=1000000):
 Calls prog 77 #[v,.bool true] w fun e w'=>(∃k:Int,e=.returned (.int .i64 k)∧decide (0<=k)=Ln.dark m)∧w=w':=by
 obtain⟨a,c,rfl⟩:=hv.form
 rw[ZmI]at hv⊢
 obtain⟨n,hn⟩:∃n,n=m.length:=⟨_,rfl⟩
 rw[<-hn]at hv hm⊢
 have HN:=ZmE hn
 have HV:=ZmE hv
 have HD:=ZmE (show Ln.dark m=m.any fun b=>b from rfl)
 generalize Ln.dark m=d at*
 clear hv hn
 go_enter func77,ntmps77
 go_wp2_with fail
 go_loop [8] (fun t=>∃j:Nat,j<=n∧t=.int .i64 (j:Int)∧Hid (∀x∈m.take j,x=false)) (fun t=>n-(intOf t).toNat)
 case atStart=>exact Qcy
 case round=>
 obtain⟨j,hj,rfl,HB⟩:=hrel
 by_cases hlt:j<n
 ·obtain⟨x,hxj⟩:∃x,m[j]? =some x:=⟨_,ZmG QhV⟩
  obtain⟨b,o,ha,hb,hc⟩:=HV.out.bool_at (Ext.refl w) hxj
  subst ha
  have hjI:(j:Int)<(n:Int):=by omega
  cases x with
  |true=>have HF:Hid (d=true):=ZmE QiZ;clear hxj;go_wp2;go_ret;exact⟨⟨_,rfl,by rw[HF.out];exact ZmR QhN⟩,rfl⟩
  |false=>exact QbO
 ·obtain rfl:n=j:=QhN;have HF:Hid (d=false):=ZmE Qkh;clear hlt hj;go_wp2;go_ret;exact⟨⟨_,rfl,by rw[HF.out];rfl⟩,rfl⟩
theorem ZbK (v:Value) (m:List Bool) (w:World) (hv:Sl w v (m.map encT)) (hm:m.length<=1000000):
 Calls prog 33 #[v,.bool true] w fun e w'=>e=.returned (.bool (Ln.dark m))∧w=w':=by
 have HI:=ZmE (Zg6 v m w hv hm)
 generalize Ln.dark m=d at*
 obtain⟨a,c,rfl⟩:=hv.form
 rw[ZmI]at HI⊢
 generalize m.length=n at*
 go_enter func33,ntmps33
 go_wp2_with fail
 refine HI.out.mono ?_
 rintro e w1 ⟨⟨k,rfl,hk⟩,rfl⟩
 go_wp2
 go_ret
 exact⟨by first|rfl|simp[hk],rfl⟩
end
end Go.Proofs.YtbngggoccndefaaGreatDoor
