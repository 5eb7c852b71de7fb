/-
  Laid together.
-/
import Derived.Test.YtbngggoccndefaaGreatDoorDd20
import Derived.Test.YtbngggoccndefaaGreatDoorDd30
set_option maxHeartbeats 16000000
set_option maxRecDepth 100000
set_option linter.unusedVariables false
set_option linter.unusedSimpArgs false
set_option linter.ambiguousOpen false
namespace Go.Proofs.YtbngggoccndefaaGreatDoor
open Go.Proofs.Tryz
section
open Go.RowKit
theorem Zd0 {f:Nat} {args:Array Value} {w:World} {D:ByteArray} {x:Int} (h:Calls prog f args w (DecR (D.data.toList,x) w)):
 Calls prog f args w fun e w'=>e=.returned (.tuple #[.string D,.int .i64 x])∧Ext w w':=
 h.mono fun e w' ⟨he,hx⟩=>⟨by rw[he];simp only[strV,Zy],hx⟩
theorem ZkP (ws:List Int) (check:Bool) (hl:ws.length<=1000000) (hcnt:Tw.countsK 0 ws.length check=true) (hw0:(Tw.wide ws).2=0) (w:World) (v:Value) (B:Nat) (hv:Own 4 w B v ((Tw.wide ws).1.map encT)):
 Calls prog 151 #[.int .i64 5,v] w (DecR (Tw.readK 0 (Tw.elems (Tw.wide ws).1)) w):=by
 have hbl:=wide_len ws hw0
 simp[Tw.countsK,Tw.counts]at hcnt
 have hb1:check.toNat<=1:=Qf8
 exact Zjr v _ w B ((ws.length+1)/10) hv QhN QhN QhN
theorem ZkQ (ws:List Int) (check:Bool) (hl:ws.length<=1000000) (hcnt:Tw.countsK 1 ws.length check=true) (hw0:(Tw.wide ws).2=0) (w:World) (v:Value) (B:Nat) (hv:Own 4 w B v ((Tw.wide ws).1.map encT)):
 Calls prog 151 #[.int .i64 6,v] w (DecR (Tw.readK 1 (Tw.elems (Tw.wide ws).1)) w):=by
 have hbl:=wide_len ws hw0
 simp[Tw.countsK,Tw.counts]at hcnt
 have hb1:check.toNat<=1:=Qf8
 exact Zjs v _ w B ((ws.length+1)/8) hv QhN QhN QhN
theorem ZkR (ws:List Int) (check:Bool) (hl:ws.length<=1000000) (hcnt:Tw.countsK 2 ws.length check=true) (hw0:(Tw.wide ws).2=0) (w:World) (v:Value) (B:Nat) (hv:Own 4 w B v ((Tw.wide ws).1.map encT)):
 Calls prog 150 #[v] w (DecR (Tw.readK 2 (Tw.elems (Tw.wide ws).1)) w):=by
 have hbl:=wide_len ws hw0
 simp[Tw.countsK,Tw.countsItf]at hcnt
 exact ZgR v _ w B ((ws.length-7)/10) hv QhN QhN QhN
theorem ZlJ (v:Value) (ws:List Int) (check:Bool) (w:World) (hv:Sl w v (ws.map encI)) (hl:ws.length<=1000000):
 Calls prog 84 #[.int .i64 5,v,.bool check] w (DecR (Tw.decK 0 ws check) w):=by
 have HT:=ZmE (Tw.decK.eq_1 0 ws check)
 generalize Tw.decK 0 ws check=res at*
 obtain⟨a,c,rfl⟩:=hv.form
 rw[ZmI]at hv⊢
 have HV:=ZmE hv
 have HP:=ZmE (fun w=>Zl5 ws.length check w hl)
 have HW:=ZmE (fun w' hx=>Zci _ ws w' (HV.out.ext hx) hl)
 clear hv
 cases hcnt:Tw.countsK 0 ws.length check
 ·exact Qgn
 have HRR:=ZmE (ZkP ws check hl hcnt)
 have HCN:=ZmE hcnt
 rw[hcnt]at HP HT
 rw[ZmF Bool.noConfusion]at HT
 clear hcnt
 by_cases hw:(Tw.wide ws).2≠0
 ·exact Qaw
 rw[ZmF hw]at HT
 have hw0:(Tw.wide ws).2=0:=ZnT hw
 have HR:=ZmE (HRR.out hw0)
 have hbl:=wide_len ws hw0
 rw[show Tw.wide ws=((Tw.wide ws).1,0)from Zqb rfl hw0]at HW
 clear HRR hw hw0
 generalize(Tw.wide ws).1=bits at*
 by_cases hr:(Tw.readK 0 (Tw.elems bits)).2≠0
 ·rw[ZmH hr]at HT;have dr:((Tw.readK 0 (Tw.elems bits)).2 !=0)=true:=ZnA.2 hr;generalize Tw.readK 0 (Tw.elems bits)=R at*;exact Qav
 rw[ZmF hr]at HT
 have hr0:(Tw.readK 0 (Tw.elems bits)).2=0:=ZnT hr
 have hcn:=HCN.out
 have hb1:check.toNat<=1:=Qf8
 simp[Tw.countsK,Tw.counts]at hcn
 obtain⟨M,hch,hMl,hPT,htx⟩:=ZkC bits ((ws.length+1)/10) check QhN QhN QhN hr0
 obtain⟨C,hC,hCs⟩:=ofList (42::(M++[42]))
 obtain⟨MB,hMB,hMBs⟩:=ofList M
 have hCz:C.size=MB.size+2:=by rw[hCs,hMBs];simp
 have hMb:1<=MB.size∧MB.size<=2000:=by rw[hMBs,hMl];omega
 have hc3:3<=C.size:=by omega
 have hc4:C.size<=2002:=by omega
 have hsc:((C.size:Int)-1).toNat=C.size-1:=by omega
 have hS:C.extract 1 (C.size-1)=MB:=Zh (by rw[Zs,hC,hMB,ZbR 42 42 M _ QhN,ZmW QhN])
 have hRK:Tw.readK 0 (Tw.elems bits)=(C.data.toList,0):=Zqb (by rw[hch,hC]) hr0
 rw[hRK,hC]at HT
 rw[hRK]at HR
 replace hPT:Parts 0 (42::(M++[42])) check MB.data.toList:=by rw[hMB];exact hPT
 replace HR:=ZmE (fun w' v' B how=>Zd0 (HR.out w' v' B how))
 obtain⟨hMb1,hMb2⟩:=hMb
 cases check
 ·rw[ZmF QiK,hPT.plain rfl]at HT;clear hPT htx hch hMl hC hCs hMBs hMB hCz hcn hb1 hr hr0 hRK hbl;exact Qay
 ·obtain⟨hz2,_⟩:=hPT.size rfl;rw[Zb]at hz2;have hsn:((MB.size:Int)-1).toNat=MB.size-1:=QhN;obtain⟨TB,hTB,hTBs⟩:=ofList (Tw.textK 0 (42::(M++[42])) true);have hT:MB.extract 0 (MB.size-1)=TB:=Zh (by rw[Zr,hTB,htx,hMB,hMBs]);have hTs:TB.size<=1000000:=(by rw[<-hT,Zom];omega);have hsm:=hPT.same rfl;rw[<-hTB]at HT hsm;obtain⟨DB,hDB,hDBs⟩:=ofList (Tw.chkK 0 TB.data.toList);have HK:=ZmE (fun w=>ckB hDB (Zhr TB w hTs));rw[<-hDB]at hsm;clear hPT htx hch hMl hC hCs hMBs hMB hCz hcn hb1 hr hr0 hRK hbl hTB hTBs hDB hDBs;exact Q9
theorem ZlK (v:Value) (ws:List Int) (check:Bool) (w:World) (hv:Sl w v (ws.map encI)) (hl:ws.length<=1000000):
 Calls prog 84 #[.int .i64 6,v,.bool check] w (DecR (Tw.decK 1 ws check) w):=by
 have HT:=ZmE (Tw.decK.eq_1 1 ws check)
 generalize Tw.decK 1 ws check=res at*
 obtain⟨a,c,rfl⟩:=hv.form
 rw[ZmI]at hv⊢
 have HV:=ZmE hv
 have HP:=ZmE (fun w=>Zl6 ws.length check w hl)
 have HW:=ZmE (fun w' hx=>Zci _ ws w' (HV.out.ext hx) hl)
 clear hv
 cases hcnt:Tw.countsK 1 ws.length check
 ·exact Qgn
 have HRR:=ZmE (ZkQ ws check hl hcnt)
 have HCN:=ZmE hcnt
 rw[hcnt]at HP HT
 rw[ZmF Bool.noConfusion]at HT
 clear hcnt
 by_cases hw:(Tw.wide ws).2≠0
 ·exact Qaw
 rw[ZmF hw]at HT
 have hw0:(Tw.wide ws).2=0:=ZnT hw
 have HR:=ZmE (HRR.out hw0)
 have hbl:=wide_len ws hw0
 rw[show Tw.wide ws=((Tw.wide ws).1,0)from Zqb rfl hw0]at HW
 clear HRR hw hw0
 generalize(Tw.wide ws).1=bits at*
 by_cases hr:(Tw.readK 1 (Tw.elems bits)).2≠0
 ·rw[ZmH hr]at HT;have dr:((Tw.readK 1 (Tw.elems bits)).2 !=0)=true:=ZnA.2 hr;generalize Tw.readK 1 (Tw.elems bits)=R at*;exact Qav
 rw[ZmF hr]at HT
 have hr0:(Tw.readK 1 (Tw.elems bits)).2=0:=ZnT hr
 have hcn:=HCN.out
 have hb1:check.toNat<=1:=Qf8
 simp[Tw.countsK,Tw.counts]at hcn
 obtain⟨hMl,hPT,hva⟩:=ZkD bits ((ws.length+1)/8) check QhN QhN QhN hr0
 obtain⟨C,hC,hCs⟩:=ofList (Tw.readK 1 (Tw.elems bits)).1
 obtain⟨MB,rfl⟩:∃MB:ByteArray,MB=C:=⟨_,rfl⟩
 have hMB:=hC
 have hMb:1<=MB.size∧MB.size<=2000:=by rw[hCs,hMl];omega
 have hRK:Tw.readK 1 (Tw.elems bits)=(MB.data.toList,0):=Zqb (by rw[hC]) hr0
 rw[hRK]at HT HR
 rw[<-hC]at hPT hva
 replace HR:=ZmE (fun w' v' B how=>Zd0 (HR.out w' v' B how))
 obtain⟨hMb1,hMb2⟩:=hMb
 cases check
 ·rw[ZmF QiK,hPT.plain rfl]at HT;clear hPT hva hMl hC hCs hMB hcn hb1 hr hr0 hRK hbl;exact Qay
 ·obtain⟨hz2,_⟩:=hPT.size rfl;rw[Zb]at hz2;have hsn:((MB.size:Int)-1).toNat=MB.size-1:=QhN;have hsn2:((MB.size:Int)-2).toNat=MB.size-2:=QhN;obtain⟨TB,hTB,hTBs⟩:=ofList (Tw.textK 1 MB.data.toList true);have hT:MB.extract 0 (MB.size-2)++MB.extract (MB.size-1) MB.size=TB:=Zh (by rw[Ziu,Zr,Z2,hTB];show _=MB.data.toList.take (MB.data.toList.length-2)++MB.data.toList.drop (MB.data.toList.length-1);rw[Zb]);have hTs:TB.size<=1000000∧1<=TB.size:=(by rw[<-hT];simp[Zom];omega);have hsm:=hPT.same rfl;have hv2:=hva rfl;rw[<-hTB]at HT hsm hv2;obtain⟨DB,hDB,hDBs⟩:=ofList (Tw.chkK 1 TB.data.toList);have HK:=ZmE (fun w=>ckB hDB (Zhs TB w hTs.1 hTs.2 (ZmE hv2)));clear hv2 hva;rw[<-hDB]at hsm;clear hPT hMl hC hCs hMB hcn hb1 hr hr0 hRK hbl hTB hTBs hDB hDBs;by_cases heq:DB.data.toList=MB.data.toList;(·rw[ZmF (by intro h;exact h.2 (hsm.2 heq))]at HT;obtain rfl:DB=MB:=Zh heq;clear hsm heq;go_enter func84,ntmps84;go_wp2_with fail;refine(HP.out _).mono ?_;rintro e w1 ⟨rfl,rfl⟩;go_wp2_with fail;refine(HW.out _ (Ext.refl _)).mono ?_;rintro e w2 ⟨wv,rfl,how,hx2⟩;have HRC:=ZmE (HR.out w2 wv _ how);clear how HR;go_wp2_with fail;refine HRC.out.mono ?_;rintro e w3 ⟨rfl,hx3⟩;go_wp2;go_region;(first|rw[hT]|skip);exact Qbr);·rw[ZmH ⟨rfl,fun h=>heq (hsm.1 h)⟩]at HT;have hne:=ZeN heq;clear hsm heq;go_enter func84,ntmps84;go_wp2_with fail;refine(HP.out _).mono ?_;rintro e w1 ⟨rfl,rfl⟩;go_wp2_with fail;refine(HW.out _ (Ext.refl _)).mono ?_;rintro e w2 ⟨wv,rfl,how,hx2⟩;have HRC:=ZmE (HR.out w2 wv _ how);clear how HR;go_wp2_with fail;refine HRC.out.mono ?_;rintro e w3 ⟨rfl,hx3⟩;go_wp2;go_region;(first|rw[hT]|skip);exact QbB
theorem ZlL (v:Value) (ws:List Int) (check:Bool) (w:World) (hv:Sl w v (ws.map encI)) (hl:ws.length<=1000000):
 Calls prog 84 #[.int .i64 7,v,.bool check] w (DecR (Tw.decK 2 ws check) w):=by
 have HT:=ZmE (Tw.decK.eq_1 2 ws check)
 generalize Tw.decK 2 ws check=res at*
 obtain⟨a,c,rfl⟩:=hv.form
 rw[ZmI]at hv⊢
 have HV:=ZmE hv
 have HP:=ZmE (fun w=>Zl7 ws.length check w hl)
 have HW:=ZmE (fun w' hx=>Zci _ ws w' (HV.out.ext hx) hl)
 clear hv
 cases hcnt:Tw.countsK 2 ws.length check
 ·exact Qgn
 have HRR:=ZmE (ZkR ws check hl hcnt)
 have HCN:=ZmE hcnt
 rw[hcnt]at HP HT
 rw[ZmF Bool.noConfusion]at HT
 clear hcnt
 by_cases hw:(Tw.wide ws).2≠0
 ·exact Qaw
 rw[ZmF hw]at HT
 have hw0:(Tw.wide ws).2=0:=ZnT hw
 have HR:=ZmE (HRR.out hw0)
 have hbl:=wide_len ws hw0
 rw[show Tw.wide ws=((Tw.wide ws).1,0)from Zqb rfl hw0]at HW
 clear HRR hw hw0
 generalize(Tw.wide ws).1=bits at*
 by_cases hr:(Tw.readK 2 (Tw.elems bits)).2≠0
 ·rw[ZmH hr]at HT;have dr:((Tw.readK 2 (Tw.elems bits)).2 !=0)=true:=ZnA.2 hr;generalize Tw.readK 2 (Tw.elems bits)=R at*;exact Qav
 rw[ZmF hr]at HT
 have hr0:(Tw.readK 2 (Tw.elems bits)).2=0:=ZnT hr
 have hcn:=HCN.out
 have hb1:check.toNat<=1:=Qf8
 simp[Tw.countsK,Tw.countsItf]at hcn
 obtain⟨hMl,hPT⟩:=ZkE bits ((ws.length-7)/10) check QhN QhN QhN hr0
 obtain⟨C,hC,hCs⟩:=ofList (Tw.readK 2 (Tw.elems bits)).1
 obtain⟨MB,rfl⟩:∃MB:ByteArray,MB=C:=⟨_,rfl⟩
 have hMB:=hC
 have hMb:1<=MB.size∧MB.size<=2000:=by rw[hCs,hMl];omega
 have hRK:Tw.readK 2 (Tw.elems bits)=(MB.data.toList,0):=Zqb (by rw[hC]) hr0
 rw[hRK]at HT HR
 rw[<-hC]at hPT
 replace HR:=ZmE (fun w' v' B how=>Zd0 (HR.out w' v' B how))
 obtain⟨hMb1,hMb2⟩:=hMb
 cases check
 ·rw[ZmF QiK,hPT.plain rfl]at HT;clear hPT hMl hC hCs hMB hcn hb1 hr hr0 hRK hbl;exact Qay
 ·obtain⟨hz2,_⟩:=hPT.size rfl;rw[Zb]at hz2;have hsn:((MB.size:Int)-1).toNat=MB.size-1:=QhN;obtain⟨TB,hTB,hTBs⟩:=ofList (Tw.textK 2 MB.data.toList true);have hT:MB.extract 0 (MB.size-1)=TB:=Zh (by rw[Zr,hTB];show _=MB.data.toList.take (MB.data.toList.length-1);rw[Zb]);have hTs:TB.size<=1000000:=(by rw[<-hT,Zom];omega);have hsm:=hPT.same rfl;rw[<-hTB]at HT hsm;obtain⟨DB,hDB,hDBs⟩:=ofList (Tw.chkK 2 TB.data.toList);have HK:=ZmE (fun w=>ckB hDB (Zht TB w hTs));rw[<-hDB]at hsm;clear hPT hMl hC hCs hMB hcn hb1 hr hr0 hRK hbl hTB hTBs hDB hDBs;exact Q9
theorem Zfa (K:Nat) {l:List Bool} {i:Nat} {x:Bool} (h:l[i]? =some x):Rn.stretch K (l.take (i+1))=Rn.stretch K (l.take i)++List.replicate K x:=by rw[Zo4,h];simp[Rn.stretch]
theorem Zba (K:Nat) (l:List Bool) (i:Nat):(Rn.stretch K (l.take i)).length<=l.length*K:=by
 have h:∀l:List Bool,(Rn.stretch K l).length=l.length*K:=by
  intro l
  induction l with
  |nil=>simp[Rn.stretch]
  |cons x l ih=>have e:Rn.stretch K (x::l)=List.replicate K x++Rn.stretch K l:=rfl;rw[e,ZmM,Zns,ih,ZmQ,Nat.succ_mul];omega
 rw[h];exact Nat.mul_le_mul_right _ QhS
theorem Zf8 (v:Value) (m:List Bool) (K:Nat) (w:World) (hv:Sl w v (m.map encT)) (hm:m.length<=1000) (hm1:1<=m.length) (hK:1<=K) (hK8:K<=8):
 Calls prog 24 #[v,.int .i64 (K:Int)] w (BoolsE (Rn.stretch K m,0) w):=by
 obtain⟨a,c,rfl⟩:=hv.form
 rw[ZmI]at hv⊢
 obtain⟨n,hn⟩:∃n,n=m.length:=⟨_,rfl⟩
 rw[<-hn]at hv hm hm1⊢
 have HN:=ZmE hn
 have HV:=ZmE hv
 have HLN:=ZmE (Zba K m)
 have hnK:n*K<=8000:=ZoN hm hK8
 rw[<-hn]at HLN
 obtain⟨q,hq⟩:∃q,q=(65536:Int)/(n:Int):=⟨_,rfl⟩
 have hqt:(65536:Int).tdiv (n:Int)=q:=by rw[hq,Zo1 QhN]
 have hq8:65<=q:=by rw[hq];exact(Int.le_ediv_iff_mul_le QhN).2 QhN
 have hq9:q<=65536:=by rw[hq];exact ZpG _ QhN
 have hn0:(0:Int)<(n:Int):=by omega
 have hne:((n:Int)==0)=false:=ZmJ.2 QhN
 have hKq:¬q<(K:Int):=by omega
 have hK1:¬(K:Int)<1:=by omega
 clear hq hv hn
 go_enter func24,ntmps24
 go_wp2_with fail
 clear hqt hq8 hq9 hn0 hne hKq hK1
 go_loopw [6,7] (fun v i wr=>∃j:Nat,j<=n∧i=.int .i64 (j:Int)∧Hid (Own 4 wr w.heap.size v ((Rn.stretch K (m.take j)).map encT))∧Hid (Ext w wr)) (fun _ i _=>n-(intOf i).toNat)
 case atStart=>exact QdI
 case round=>obtain⟨j,hj,rfl,HO,HX⟩:=hrel;by_cases hlt:j<n;(·obtain⟨x,hxj⟩:∃x,m[j]? =some x:=⟨_,ZmG QhV⟩;have HMS:=ZmE (Zfa K hxj);have hjI:(j:Int)<(n:Int):=QhN;have HL2:=ZmE (HLN.out (j+1));have HXJ:=ZmE hxj;generalize Rn.stretch K (m.take j)=got at*;clear hxj;go_wp2_with fail;go_loopw [6,8] (fun v k wq=>∃q:Nat,q<=K∧k=.int .i64 (q:Int)∧Hid (Own 4 wq w.heap.size v ((got++List.replicate q x).map encT))∧Hid (Ext w wq)) (fun _ k _=>K-(intOf k).toNat);(case atStart=>exact⟨0,ZmP _,rfl,by simpa using HO,HX⟩);case round=>clear HO HX;obtain⟨q,hq,rfl,HO,HX⟩:=hrel;obtain⟨b,o,ha,hb,hc⟩:=HV.out.bool_at HX.out HXJ.out;subst ha;by_cases hql:q<K;(·have hqI:(q:Int)<(K:Int):=QhN;have hown:=HO.out;have hgl:(got++List.replicate q x).length<=65536:=QdW;have hsz:=HX.out.size;go_wp2_with (at_builtin;refine ZH rfl _ _ rfl w.heap.size _ (got++List.replicate q x) rfl (hown.alloc _) _ x rfl ?c1 ?c2 ?c3 ?_);(case c1=>exact QeO);(case c2=>omega);(case c3=>exact Qa3);intro v' w5 hown5 hg5;have HX5:=ZmE ((HX.out.alloc _).ofGrown hg5 hown.low);have HO5:Hid (Own 4 w5 w.heap.size v' ((got++List.replicate (q+1) x).map encT)):=ZmE (by first|(rw[ZoW,<-Znu];exact hown5)|(rw[show(got++List.replicate (q+1) x).map encT=List.map encT got++(List.replicate q (encT x)++[encT x]) by rw[ZoW];simp];exact hown5));exact Qdz);·obtain rfl:q=K:=QhN;have HO3:Hid (Own 4 wr w.heap.size _ ((Rn.stretch q (m.take (j+1))).map encT)):=ZmE (by rw[HMS.out];exact HO.out);exact QdO);·obtain rfl:j=n:=QhN;have hO:=HO.out;rw[ZmW QhU]at hO;have HK:=ZmE hO.slk;have hx9:=HX.out;clear hO HO HX hlt;go_wp2_with fail;go_ret2;exact Qdh
end
end Go.Proofs.YtbngggoccndefaaGreatDoor
namespace Go.Proofs.YtbngggoccndefaaGreatDoor
open Go.Proofs.Tryz
section
open Go.RowKit Go.ChangeShapes Go.WideShapes Go.Deep Go.Joins
theorem asciiG:prog.globalNamed "strings.asciiSpace"=some 0:=Qdu
theorem Zgr:(Rows.laid_strings_asciiSpace:DataW Unit)=Lib.tabData .u8 Lib.asciiSpaceTab:=Qdu
theorem spaces_of {W:World} (h:laidMetH prog [("unicode.White_Space",Rows.laid_unicode_White_Space),("strings.asciiSpace",Rows.laid_strings_asciiSpace)] W):Spaces W:=by
 have h1:=laidMetH.filter (fun p=>p.1== "strings.asciiSpace") h;have e:([("unicode.White_Space",Rows.laid_unicode_White_Space),("strings.asciiSpace",Rows.laid_strings_asciiSpace)]:List (String×DataW Unit)).filter (fun p=>p.1== "strings.asciiSpace")=[("strings.asciiSpace",Lib.tabData .u8 Lib.asciiSpaceTab)]:=by rw[<-Zgr];rfl
 rw[e]at h1;exact Lib.tabIs_of_head (rest:=[]) asciiG (t:=195) (e:=5) (n:=256) QhO underlying195 underlying5 QhO QhO h1
end
end Go.Proofs.YtbngggoccndefaaGreatDoor
