/-
  Laid.
-/
import Derived.Test.YtbngggoccndefaaGreatDoorLe19
set_option maxHeartbeats 8000000
set_option maxRecDepth 100000
set_option linter.all false
namespace Go.Proofs.Enc
open Go.Proofs.Tryz
section
open Go.RowKit
def ZY(l:List UInt8)(i n:Nat):List Bool:=((l.drop (i*n)).take n).map λc=>c==49
def oC(c:UInt8):(((c.toNat:Int)==49)=(c==49)):=by
 rw[K4,I1,I1];constructor;·intro h;exact V4.1 (by have:(49:UInt8).toNat=49:=rfl;omega)
 .intro h;rw[h];rfl
def oD(s:ByteArray)(i n k:Nat)(h:i*n+k<s.size)(_:k<n):((s.data.toList.drop (i*n)).take (k+1)).map (λc=>c==49)=((s.data.toList.drop (i*n)).take k).map (λc=>c==49)++[s[i*n+k]==49]:=by
 have hl:k<(s.data.toList.drop (i*n)).length:=by rw[Z7];omega
 rw[L9 hl,R2,List.getElem_drop];rfl
def zW(l:List Bool)(w:World)(e:Ending)(w':World):Prop:=∃v,e=.returned v/\Own 4 w' w.heap.size v (l.map encT)/\Ext w w'
def oE(s:ByteArray)(i:Nat)(w:World)(hs:(i+1)*5<=s.size)(hi:i<=1000):
 Calls prog 200 #[.string s,.int .i64 (i:Int),.int .i64 5] w (zW (ZY s.data.toList i 5) w):=by
 have HT:=B0 (ZY.eq_1 s.data.toList i 5);generalize ZY s.data.toList i 5=res at*;go_enter func200,ntmps200;go_wp2;go_loopw [8,7] (λj c wr=>∃k:Nat,k<=5/\j=.int .i64 (k:Int)/\Own 4 wr w.heap.size c ((((s.data.toList.drop (i*5)).take k).map λc=>c==49).map encT)/\Ext w wr) (λj _ _=>5-(intOf j).toNat)
 case atStart=>exact OH
 case round=>obtain⟨k,hk,rfl,b8,j3⟩:=hrel;by_cases hlt:k<5;(·have Bd:i*5+k<s.size:=C0;have Rk:=B0 (oD s i 5 k Bd hlt);have De:(((s.data.toList.drop (i*5)).take k).map λc=>c==49).length<=k:=xX;obtain⟨q,hq⟩:∃q,i*5+k=q:=⟨_,rfl⟩;have Ys:(i:Int)*5+(k:Int)=(q:Int):=C0;have hqs:q<s.size:=C0;have hsq:s[i*5+k]=s[q]:=(by congr 1);rw[hsq]at Rk;have d1:=oC s[q];generalize((s.data.toList.drop (i*5)).take k).map (λc=>c==49)=got at*;exact oF);·obtain rfl:k=5:=C0;exact oG
def ZoM(s:ByteArray)(i:Nat)(w:World)(hs:(i+1)*7<=s.size)(hi:i<=1000):
 Calls prog 200 #[.string s,.int .i64 (i:Int),.int .i64 7] w (zW (ZY s.data.toList i 7) w):=by
 have HT:=B0 (ZY.eq_1 s.data.toList i 7);generalize ZY s.data.toList i 7=res at*;go_enter func200,ntmps200;go_wp2;go_loopw [8,7] (λj c wr=>∃k:Nat,k<=7/\j=.int .i64 (k:Int)/\Own 4 wr w.heap.size c ((((s.data.toList.drop (i*7)).take k).map λc=>c==49).map encT)/\Ext w wr) (λj _ _=>7-(intOf j).toNat)
 case atStart=>exact OH
 case round=>obtain⟨k,hk,rfl,b8,j3⟩:=hrel;by_cases hlt:k<7;(·have Bd:i*7+k<s.size:=C0;have Rk:=B0 (oD s i 7 k Bd hlt);have De:(((s.data.toList.drop (i*7)).take k).map λc=>c==49).length<=k:=xX;obtain⟨q,hq⟩:∃q,i*7+k=q:=⟨_,rfl⟩;have Ys:(i:Int)*7+(k:Int)=(q:Int):=C0;have hqs:q<s.size:=C0;have hsq:s[i*7+k]=s[q]:=(by congr 1);rw[hsq]at Rk;have d1:=oC s[q];generalize((s.data.toList.drop (i*7)).take k).map (λc=>c==49)=got at*;exact oF);·obtain rfl:k=7:=C0;exact oG
def fives:List UInt8:=[49,48,48,48,49,48,49,48,48,49,49,49,48,48,48,48,48,49,48,49,49,48,49,48,48,48,49,49,48,48,48,48,48,49,49,49,48,48,49,48,48,49,48,49,48,48,48,49,49,48]
def groups:List UInt8:=[85,86,87,88,89,90,45,46,32,42,49,50,51,52,53,54,55,56,57,48,65,66,67,68,69,70,71,72,73,74,75,76,77,78,79,80,81,82,83,84]
def narrows:List UInt8:=[37,43,47,36]
def rowA(a:Nat):List Bool:=(List.range 9).map λi=>if i%2=0 then(ZY fives (a%10) 5).getD (i/2) false else decide (i=2*(a/10)+1)
def rowN(a:Nat):List Bool:=(List.range 9).map λi=>if i%2=1 then decide (i/2≠a)else false
def J9(c:UInt8):List Bool:=if 0<=Lib.indexByte groups c then rowA (Lib.indexByte groups c).toNat else if 0<=Lib.indexByte narrows c then rowN (Lib.indexByte narrows c).toNat else []
def Znp:∀i:Fin 256,Tw.Ao 0 (UInt8.ofNat i.val)=if J9 (UInt8.ofNat i.val)=[]then([],6)else(J9 (UInt8.ofNat i.val),0):=L2
def oH(w:World):(w.alloc (.cells #[.bool false,.bool false,.bool false,.bool false,.bool false,.bool false,.bool false,.bool false,.bool false] 4)).rowIs w.heap.size 4 9 (λ_=>.bool false):=
 ⟨_,X2 w _,rfl,λi hi=>by obtain rfl|rfl|rfl|rfl|rfl|rfl|rfl|rfl|rfl:i=0\/i=1\/i=2\/i=3\/i=4\/i=5\/i=6\/i=7\/i=8:=C0;all_goals rfl⟩
def Own.at5{t:TypeId}{w:World}{B:Nat}{v:Value}{xs:List Value}(h:Own t w B v xs)(k7:xs≠ []):
 ∃g cap,v=.slice (some ⟨g,0,none⟩) xs.length cap/\B<=g/\g<w.heap.size/\∀i,i<xs.length->w.cell? ⟨g,i,none⟩=xs[i]? :=by
 have hh:=h;rcases h.2 with⟨_,h0⟩|⟨g,cap,cur,hv,Ki,hb,h1,h2,h3,h4⟩
 .exact absurd (U3 h0) k7
 .refine⟨g,cap,hv,Ki,(V3.1 hb).1,λi hi=> ?_⟩;unfold Own at hh;rw[hv]at hh;rw[hh.cellAt i C0]
def Zoe(c:UInt8)(a:Nat)(w:World)(ha:Lib.indexByte groups c=(a:Int))(ha4:a<40):
 Calls prog 199 #[.int .u8 (c.toNat:Int)] w λe w'=>∃v,e=.returned v/\SlN w' w.heap.size v ((rowA a).map encT)/\Ext w w':=by
 have HP:Hid (∀w,Calls prog 198 #[.string ⟨#[85,86,87,88,89,90,45,46,32,42,49,50,51,52,53,54,55,56,57,48,65,66,67,68,69,70,71,72,73,74,75,76,77,78,79,80,81,82,83,84]⟩,.int .u8 (c.toNat:Int)] w λe w'=>e=.returned (.int .i64 (a:Int))/\w=w'):=B0 (λw=>by have:=zT ⟨groups.toArray⟩ c w I0;rw[show(⟨groups.toArray⟩:ByteArray).data.toList=groups from rfl,ha]at this;exact this);have HC:Hid (∀w,Calls prog 200 #[.string ⟨#[49,48,48,48,49,48,49,48,48,49,49,49,48,48,48,48,48,49,48,49,49,48,49,48,48,48,49,49,48,48,48,48,48,49,49,49,48,48,49,48,48,49,48,49,48,48,48,49,49,48]⟩,.int .i64 ((a:Int)%10),.int .i64 5] w (zW (ZY fives (a%10) 5) w)):=B0 (λw=>by have:=oE ⟨fives.toArray⟩ (a%10) w oI C0;rw[Int.natCast_emod]at this;exact this);have Gl:=B0 (rowA.eq_1 a);have Ce:(ZY fives (a%10) 5).length=5:=oJ;generalize ZY fives (a%10) 5=bars at*;generalize rowA a=res at*;clear ha;have HM:=B0 (oH w);go_enter func199,ntmps199;go_wp2_with fail;refine(HP.out _).mono ?_;rintro e w1 ⟨rfl,rfl⟩;go_wp2_with fail;refine(HC.out _).mono ?_;rintro e w1 ⟨v,rfl,b8,b7⟩;obtain⟨g,cap,rfl,Kk,Cw,Sn⟩:=b8.at5 (by intro h0;have:=V0 List.length h0;simp at this;rw[this]at Ce;simp at Ce);rw[M0,Ce]at Sn⊢;have HGC:Hid (∀i,i<5->w1.cell? ⟨g,i,none⟩=some (.bool (bars.getD i false))):=B0 (λi hi=>by rw[Sn i hi,B3,F1,P0 C0];rfl);have IQ:Hid (w1.rowIs w.heap.size 4 9 (λ_=>.bool false)):=B0 (Ext.row HM.out b7);have hgw:g≠w.heap.size:=by simp at Kk;omega
 have n8:Ext w w1:=((Ext.refl w).alloc _).trans b7;clear Sn b8 b7 Kk HM HP HC;go_wp2;go_loopw [7] (λj wr=>∃k:Nat,k<=5/\j=.int .i64 (k:Int)/\wr.rowIs w.heap.size 4 9 (λi=>.bool (if i%2=0/\i/2<k then bars.getD (i/2) false else false))/\Hid (∀i,i<5->wr.cell? ⟨g,i,none⟩=some (.bool (bars.getD i false)))/\Ext w wr) (λj _=>5-(intOf j).toNat)
 case atStart=>exact⟨0,R0 _,rfl,IQ.out.congr (λi _=>by simp),HGC,n8⟩
 case round=>obtain⟨k,hk,rfl,k9,Eb,j3⟩:=hrel;by_cases hlt:k<5;(·have Dt:=Eb.out k hlt;obtain⟨p,hp⟩:∃p,2*k=p:=⟨_,rfl⟩;have hpi:2*(k:Int)=(p:Int):=C0;have hp9:p<9:=C0;have hcp:=k9.cell hp9;have hfp:=k9.frozen p;have p6:=B0 ((k9.set p (.bool (bars.getD k false))).congr (g:=λi=>.bool (if i%2=0/\i/2<k+1 then bars.getD (i/2) false else false)) (λi hi=>by by_cases h1:i=p;(·subst h1;rw[G0 rfl,G0 ⟨by omega,by omega⟩,show i/2=k by omega]);·rw[D0 h1];by_cases h2:i%2=0/\i/2<k;(·rw[G0 h2,G0 ⟨h2.1,by omega⟩]);·rw[D0 h2,D0 C0]));have IK:=B0 (j3.setCell (p:=⟨w.heap.size,p,none⟩) (J0 _) (.bool (bars.getD k false)));have aEn:Hid (∀i,i<5->(wr.setCell ⟨w.heap.size,p,none⟩ (.bool (bars.getD k false))).cell? ⟨g,i,none⟩=some (.bool (bars.getD i false))):=B0 (λi hi=>by rw[UX _ _ _ _ (by intro e;injection e with e1;exact hgw e1.symm)];exact Eb.out i hi);generalize bars.getD k false=bk at*;clear k9 Eb hp;go_wp2;go_roundw;(case rel=>exact⟨k+1,by omega,by go_num,p6.out,aEn,IK.out⟩);case measure=>exact QH);·obtain rfl:k=5:=C0;obtain⟨q,hq⟩:∃q,2*(a/10)+1=q:=⟨_,rfl⟩;have Ys:2*((a:Int)/10)+1=(q:Int):=C0;have hq9:q<9:=C0;have hcq:=k9.cell hq9;have hfq:=k9.frozen q;have Kd:Hid (Sl (wr.setCell ⟨w.heap.size,q,none⟩ (.bool true)) (.slice (some ⟨w.heap.size,0,none⟩) 9 9) (res.map encT)):=B0 ((Sl.row (k9.set q (.bool true))).congr (by rw[Gl.out,K7];refine VM (λi hi=> ?_);have hi9:i<9:=OK;simp only[Function.comp,encT];by_cases h1:i=q;(·subst h1;rw[G0 rfl,D0 C0];exact X0);·rw[D0 h1];by_cases h2:i%2=0;(·rw[G0 ⟨h2,by omega⟩,G0 h2]);·rw[D0 C0,D0 h2];congr 1;symm;simp;omega));have IK:=B0 (j3.setCell (p:=⟨w.heap.size,q,none⟩) (J0 _) (.bool true));clear k9 Eb hk hlt hq;go_wp2;go_ret;exact⟨_,rfl,SlN.of Kd.out oK (J0 _),IK.out⟩
def SN(l:List UInt8)(c:UInt8)(hl:l.length<=1000)(w:World):
 Calls prog 198 #[.string ⟨l.toArray⟩,.int .u8 (c.toNat:Int)] w λe w'=>e=.returned (.int .i64 (Lib.indexByte l c))/\w=w':=
 zT ⟨l.toArray⟩ c w (by have:(⟨l.toArray⟩:ByteArray).size=l.length:=(by simp[ByteArray.size]);omega)
def Zof(c:UInt8)(w:World)(ha:Lib.indexByte groups c<0):
 Calls prog 199 #[.int .u8 (c.toNat:Int)] w λe w'=>∃v,e=.returned v/\SlN w' w.heap.size v ((if 0<=Lib.indexByte narrows c then rowN (Lib.indexByte narrows c).toNat else []).map encT)/\Ext w w':=by
 have HP:Hid (∀w,Calls prog 198 #[.string ⟨#[85,86,87,88,89,90,45,46,32,42,49,50,51,52,53,54,55,56,57,48,65,66,67,68,69,70,71,72,73,74,75,76,77,78,79,80,81,82,83,84]⟩,.int .u8 (c.toNat:Int)] w λe w'=>e=.returned (.int .i64 (Lib.indexByte groups c))/\w=w'):=B0 (λw=>SN groups c I0 w);have HQ:Hid (∀w,Calls prog 198 #[.string ⟨#[37,43,47,36]⟩,.int .u8 (c.toNat:Int)] w λe w'=>e=.returned (.int .i64 (Lib.indexByte narrows c))/\w=w'):=B0 (λw=>SN narrows c I0 w);generalize Lib.indexByte groups c=x at*;have d1:decide (0<=x)=false:=X0;by_cases hn:0<=Lib.indexByte narrows c
 .rw[G0 hn];obtain⟨a,hna⟩:=C4 hn;have ha4:=YT _ _ _ hna;rw[show narrows.length=4 from rfl]at ha4;rw[hna]at HQ⊢;rw[H6];clear hn hna;have d2:decide ((a:Int)<0)=false:=L0;have Gl:=B0 (rowN.eq_1 a);generalize rowN a=res at*;have HM:=B0 (oH w);go_enter func199,ntmps199;go_wp2_with fail;refine(HP.out _).mono ?_;rintro e w1 ⟨rfl,rfl⟩;go_wp2_with fail;refine(HQ.out _).mono ?_;rintro e w1 ⟨rfl,rfl⟩;clear HP HQ;go_wp2;go_loopw [9] (λj wr=>∃k:Nat,k<=4/\j=.int .i64 (k:Int)/\wr.rowIs w.heap.size 4 9 (λi=>.bool (if i%2=1/\i/2<k then decide (i/2≠a)else false))/\Ext w wr) (λj _=>4-(intOf j).toNat);(case atStart=>exact⟨0,R0 _,rfl,HM.out.congr (λi _=>by simp),Xe⟩);case round=>obtain⟨k,hk,rfl,k9,j3⟩:=hrel;by_cases hlt:k<4;(·obtain⟨p,hp⟩:∃p,2*k+1=p:=⟨_,rfl⟩;have hpi:2*(k:Int)+1=(p:Int):=C0;have hp9:p<9:=C0;have hcp:=k9.cell hp9;have hfp:=k9.frozen p;obtain⟨bk,Dt⟩:∃bk,decide (k≠a)=bk:=⟨_,rfl⟩;have k7:((k:Int) !=(a:Int))=bk:=(by rw[<-Dt,K4,R1,G2];omega);have p6:=B0 ((k9.set p (.bool bk)).congr (g:=λi=>.bool (if i%2=1/\i/2<k+1 then decide (i/2≠a)else false)) (λi hi=>by by_cases h1:i=p;(·subst h1;rw[G0 rfl,G0 ⟨by omega,by omega⟩,show i/2=k by omega,Dt]);·rw[D0 h1];by_cases h2:i%2=1/\i/2<k;(·rw[G0 h2,G0 ⟨h2.1,by omega⟩]);·rw[D0 h2,D0 C0]));have IK:=B0 (j3.setCell (p:=⟨w.heap.size,p,none⟩) (J0 _) (.bool bk));clear k9 hp Dt;cases bk;all_goals go_wp2;go_roundw;(case rel=>exact⟨k+1,by omega,by go_num,p6.out,IK.out⟩);case measure=>exact QH);·obtain rfl:k=4:=C0;have Kd:Hid (Sl wr (.slice (some ⟨w.heap.size,0,none⟩) 9 9) (res.map encT)):=B0 ((Sl.row k9).congr (by rw[Gl.out,K7];refine VM (λi hi=> ?_);have hi9:i<9:=OK;simp only[Function.comp,encT];by_cases h2:i%2=1;(·rw[G0 ⟨h2,by omega⟩,G0 h2]);·rw[D0 C0,D0 h2]));clear k9 hk hlt;go_wp2;go_ret;exact⟨_,rfl,SlN.of Kd.out oK (J0 _),j3⟩
 .rw[D0 hn];generalize Lib.indexByte narrows c=y at*;have d2:decide (y<0)=true:=X0;clear hn;go_enter func199,ntmps199;go_wp2_with fail;refine(HP.out _).mono ?_;rintro e w1 ⟨rfl,rfl⟩;go_wp2_with fail;refine(HQ.out _).mono ?_;rintro e w1 ⟨rfl,rfl⟩;go_wp2;go_ret;exact⟨_,rfl,SlN.nil _ _,Xe⟩
def Zl8(c:UInt8)(w:World):
 Calls prog 199 #[.int .u8 (c.toNat:Int)] w λe w'=>∃v,e=.returned v/\SlN w' w.heap.size v ((J9 c).map encT)/\Ext w w':=by
 unfold J9;by_cases h:0<=Lib.indexByte groups c
 .rw[G0 h];obtain⟨a,ha⟩:=C4 h;have:=YT _ _ _ ha;rw[show groups.length=40 from rfl]at this;have h2:=Zoe c a w ha this;rw[ha,H6];exact h2
 .rw[D0 h];exact Zof c w C0
def sevens:List UInt8:=[48,48,48,48,48,49,49,48,48,48,48,49,49,48,48,48,48,49,48,48,49,49,49,48,48,48,48,48,48,48,49,48,48,49,48,49,48,48,48,48,49,48,48,49,48,48,48,48,49,48,49,48,48,49,48,48,48,49,49,48,48,48,48,49,48,48,49,48,48,48,48,48,48,49,49,48,48,48,48,49,49,48,48,48,49,48,48,48,49,48,49,49,48,49,48,48,48,49,49,48,49,48,49,48,48,48,48,49,48,49,48,49,48,48,49,49,48,49,48,48,49,48,49,48,48,49,48,48,48,49,48,49,49,48,48,48,49,49,49,48]
def Zml:∀i:Fin 256,Tw.Ao 1 (UInt8.ofNat i.val)=if 0<=Lib.indexByte Tw.Bb (UInt8.ofNat i.val)then(ZY sevens (Lib.indexByte Tw.Bb (UInt8.ofNat i.val)).toNat 7,0)else([],6):=L2
def VU:List UInt8:=[49,50,51,52,53,54,55,56,57,48]
def ZmR:∀i:Fin 256,Tw.Ao 2 (UInt8.ofNat i.val)=if 0<=Lib.indexByte VU (UInt8.ofNat i.val)then(ZY fives (Lib.indexByte VU (UInt8.ofNat i.val)).toNat 5,0)else([],6):=L2
def Zki(c:UInt8):(J9 c).length<=9:=by
 unfold J9 rowA rowN
 repeat' split
 all_goals simp
def PatO(r:List Bool×Int)(w:World)(e:Ending)(w':World):Prop:=∃v,e=.returned (.tuple #[v,.int .i64 r.2])/\SlN w' w.heap.size v (r.1.map encT)/\Ext w w'
def GA(c:UInt8)(w:World):Calls prog 128 #[.int .i64 6,.int .u8 (c.toNat:Int)] w (PatO (Tw.Ao 1 c) w):=by
 have HE:=Zml ⟨c.toNat,c.toNat_lt⟩;simp only[VO]at HE;rw[HE];have HP:Hid (∀w,Calls prog 198 #[.string ⟨#[48,49,50,51,52,53,54,55,56,57,45,36,58,47,46,43,65,66,67,68]⟩,.int .u8 (c.toNat:Int)] w λe w'=>e=.returned (.int .i64 (Lib.indexByte Tw.Bb c))/\w=w'):=B0 (λw=>SN Tw.Bb c I0 w);by_cases h:0<=Lib.indexByte Tw.Bb c;·rw[G0 h];obtain⟨a,ha⟩:=C4 h;have IL:=YT _ _ _ ha;rw[show Tw.Bb.length=20 from rfl]at IL;rw[ha]at HP⊢;rw[H6];have x8:(ZY sevens a 7).length=7:=(by unfold ZY;rw[M0,J1,X1,show sevens.length=140 from rfl];omega);have HC:=B0 (λw=>ZoM ⟨sevens.toArray⟩ a w (by rw[show(⟨sevens.toArray⟩:ByteArray).size=140 from rfl];omega) C0);rw[show(⟨sevens.toArray⟩:ByteArray).data.toList=sevens from rfl]at HC;generalize ZY sevens a 7=bits at*;exact oL
 .rw[D0 h];generalize Lib.indexByte Tw.Bb c=y at*;exact oM
def oN(c:UInt8)(w:World):Calls prog 128 #[.int .i64 7,.int .u8 (c.toNat:Int)] w (PatO (Tw.Ao 2 c) w):=by
 have HE:=ZmR ⟨c.toNat,c.toNat_lt⟩;simp only[VO]at HE;rw[HE];have HP:Hid (∀w,Calls prog 198 #[.string ⟨#[49,50,51,52,53,54,55,56,57,48]⟩,.int .u8 (c.toNat:Int)] w λe w'=>e=.returned (.int .i64 (Lib.indexByte VU c))/\w=w'):=B0 (λw=>SN VU c I0 w);by_cases h:0<=Lib.indexByte VU c;·rw[G0 h];obtain⟨a,ha⟩:=C4 h;have IL:=YT _ _ _ ha;rw[show VU.length=10 from rfl]at IL;rw[ha]at HP⊢;rw[H6];have x8:(ZY fives a 5).length=5:=oJ;have HC:=B0 (λw=>oE ⟨fives.toArray⟩ a w oI C0);rw[show(⟨fives.toArray⟩:ByteArray).data.toList=fives from rfl]at HC;generalize ZY fives a 5=bits at*;exact oL
 .rw[D0 h];generalize Lib.indexByte VU c=y at*;exact oM
def GC(c:UInt8)(w:World):Calls prog 128 #[.int .i64 5,.int .u8 (c.toNat:Int)] w (PatO (Tw.Ao 0 c) w):=by
 have HE:=Znp ⟨c.toNat,c.toNat_lt⟩;simp only[VO]at HE;rw[HE];have HN:=B0 (λw=>Zl8 c w);have hl:=Zki c;by_cases h:J9 c=[];·rw[G0 h];rw[h]at HN;clear h HE hl;go_enter func128,ntmps128;go_wp2_with fail;refine(HN.out _).mono ?_;rintro e w1 ⟨v,rfl,j8,b7⟩;obtain⟨a1,c1,rfl⟩:=j8.1.form;simp only[H7,I3];clear j8;go_wp2;go_ret2;exact⟨.slice none 0 0,rfl,SlN.nil _ _,b7⟩
 .rw[D0 h];have hp:0<(J9 c).length:=D8.2 h;have d1:(((J9 c).length:Int)==0)=false:=QJ;generalize J9 c=bits at*;clear h HE;go_enter func128,ntmps128;go_wp2_with fail;refine(HN.out _).mono ?_;rintro e w1 ⟨v,rfl,j8,b7⟩;obtain⟨a1,c1,rfl⟩:=j8.1.form;rw[M0]at j8⊢;go_wp2;go_ret2;exact⟨_,rfl,j8,b7⟩
end
end Go.Proofs.Enc
section
namespace Go.Proofs.Enc
open Go.Proofs.Tryz
open Go.RowKit
def Zjc(c:Int)(w:World):
 Calls prog 277 #[.int .u8 c] w λe w'=>e=.returned (.bool (Cd.isDig c))/\w=w':=by
 go_enter func277,ntmps277;go_wp2
 .exact NB
 .exact NC
def Zku(k:Nat)(c:UInt8)(w:World)(hk:k<=8):
 Calls prog 270 #[.int .i64 (k:Int),.int .u8 (c.toNat:Int)] w λe w'=>e=.returned (.bool (Cd.datB k (c.toNat:Int)))/\w=w':=by
 by_cases h7:k=7
 .subst h7;go_enter func270,ntmps270;go_wp2_with fail;refine(zV c _).mono ?_;rintro e w' ⟨rfl,rfl⟩;go_wp2;go_ret;exact⟨Zn (by simp[Cd.datB]),rfl⟩
 .have hb:((k:Int)==7)=false:=QJ;have HE:Hid (Cd.datB k (c.toNat:Int)=Cd.isDig (c.toNat:Int)):=D0 h7;clear h7;go_enter func270,ntmps270;go_wp2_with fail;refine(Zjc _ _).mono ?_;rintro e w' ⟨rfl,rfl⟩;go_wp2;go_ret;exact⟨Zn HE.out.symm,rfl⟩
def VV(s:ByteArray)(i:Nat)(w:World)(hs:s.size<=9223372036854775807)(h:i<s.size)(hd:Hid (Cd.IP s.data.toList)):
 Calls prog 293 #[.string s,.int .i64 (i:Int)] w λe w'=>e=.returned (.int .i64 (Cd.dg (s[s.size-1-i]' C0)))/\w=w':=by
 obtain⟨b7,j0⟩:=hd.out _ (Zl s (s.size-1-i) C0);go_enter func293,ntmps293;go_wp2;go_ret;exact⟨rfl,rfl⟩
def GD(s:ByteArray)(i:Nat)(h:i<s.size):s.data.toList.drop (s.size-(i+1))=(s[s.size-1-i]' C0)::s.data.toList.drop (s.size-i):=by
 have e1:s.size-(i+1)=s.size-1-i:=by omega
 rw[e1,R8 s (s.size-1-i) C0,show s.size-1-i+1=s.size-i by omega]
def ZkR:∀n:Fin 11,((⟨#[48,49,50,51,52,53,54,55,56,57,88]⟩:ByteArray).extract n.1 (n.1+1)).data.toList=[Cd.chr (n.1:Int)]:=L2
def XT(v:Int)(w:World)(h0:0<=v)(h1:v<=10):
 Calls prog 278 #[.int .i64 v] w λe w'=>e=.returned (.string ⟨#[Cd.chr v]⟩)/\w=w':=by
 obtain⟨n,rfl⟩:=C4 h0;have hn:n<=10:=by omega
 have HC:=B0 (Zi (b:=⟨[Cd.chr (n:Int)].toArray⟩) (ZkR ⟨n,by omega⟩));go_enter func278,ntmps278;go_wp2;go_ret;exact⟨ZC HC.out,rfl⟩
end Go.Proofs.Enc
namespace Go.Proofs.Enc
open Go.Proofs.Tryz
open Go.RowKit
def zX(s:ByteArray)(j:Nat)(h:j<s.size):s.data.toList.take (s.size-j)=s.data.toList.take (s.size-(j+1))++[s[s.size-1-j]' C0]:=by
 have e:s.size-j=s.size-1-j+1:=by omega
 rw[e,Z1 s (s.size-1-j) C0,show s.size-(j+1)=s.size-1-j by omega]
def Zmd(s:ByteArray)(w:World)(hs:s.size<=4096)(HD:Hid (Cd.IP s.data.toList)):
 Calls prog 279 #[.string s] w λe w'=>e=.returned (.int .i64 ((10-(Cd.gsP s.data.toList).1%10)%10))/\w=w':=by
 go_enter func279,ntmps279;go_wp2;go_loop [3,4] (λt i=>∃j:Nat,j<=s.size/\i=.int .i64 (j:Int)/\t=.int .i64 (Cd.gsP (s.data.toList.drop (s.size-j))).1) (λ_ i=>s.size-(intOf i).toNat)
 case atStart=>exact GE
 case round=>obtain⟨j,hj,rfl,rfl⟩:=hrel;have hb:=Cd.gsP_bd _ (Cd.Vh HD.out (s.size-j));rw[Z7]at hb;obtain⟨o8,n7⟩:=hb;by_cases hlt:j<s.size;(·have hbd:=Cd.dg_bd (HD.out _ (Zl s (s.size-1-j) C0));have HV:=B0 (λw=>VV s j w C0 hlt HD);have hw:=Cd.gsP_w (s.data.toList.drop (s.size-j));rw[Z7,show s.size-(s.size-j)=j by omega]at hw;have s5:Cd.gsP (s.data.toList.drop (s.size-(j+1)))=((Cd.gsP (s.data.toList.drop (s.size-j))).1+(Cd.gsP (s.data.toList.drop (s.size-j))).2*Cd.dg (s[s.size-1-j]' C0),4-(Cd.gsP (s.data.toList.drop (s.size-j))).2):=V0 Cd.gsP (GD s j hlt);generalize Cd.gsP (s.data.toList.drop (s.size-j))=g at*;generalize Cd.dg (s[s.size-1-j]' C0)=d at*;have HS:=B0 s5;clear s5;obtain⟨a,b⟩:=g;dsimp only at hw o8 n7 HS⊢;obtain⟨Ld,Mg⟩:=hbd;have HW:=B0 hw;clear hw;by_cases hp:j%2=0;(·have Js:(j:Int)%2=0:=C0;go_wp2_with fail;refine(HV.out _).mono ?_;rintro e w' ⟨rfl,rfl⟩;go_wp2;go_round;(case rel=>exact⟨j+1,by omega,by go_num,by rw[HS.out,HW.out,G0 C0];show Value.int _ _=Value.int _ _;congr 1;omega⟩);case measure=>exact QH);·have Js:(j:Int)%2=1:=C0;clear hp;go_wp2_with fail;refine(HV.out _).mono ?_;rintro e w' ⟨rfl,rfl⟩;go_wp2;go_round;(case rel=>exact⟨j+1,by omega,by go_num,by rw[HS.out,HW.out,D0 C0];show Value.int _ _=Value.int _ _;congr 1;omega⟩);case measure=>exact QH);·exact zY
def Zky(s:ByteArray)(w:World)(hs:s.size<=4096)(HD:Hid (Cd.IP s.data.toList)):
 Calls prog 280 #[.string s] w λe w'=>e=.returned (.int .i64 ((10-(Cd.lnP s.data.toList).1%10)%10))/\w=w':=by
 go_enter func280,ntmps280;go_wp2;go_loop [3,4] (λt i=>∃j:Nat,j<=s.size/\i=.int .i64 (j:Int)/\t=.int .i64 (Cd.lnP (s.data.toList.drop (s.size-j))).1) (λ_ i=>s.size-(intOf i).toNat)
 case atStart=>exact GE
 case round=>obtain⟨j,hj,rfl,rfl⟩:=hrel;have hb:=Cd.lnP_bd _ (Cd.Vh HD.out (s.size-j));rw[Z7]at hb;obtain⟨o8,n7⟩:=hb;by_cases hlt:j<s.size;(·have hbd:=Cd.dg_bd (HD.out _ (Zl s (s.size-1-j) C0));have HV:=B0 (λw=>VV s j w C0 hlt HD);have hw:=Cd.lnP_w (s.data.toList.drop (s.size-j));rw[Z7,show s.size-(s.size-j)=j by omega]at hw;have s5:Cd.lnP (s.data.toList.drop (s.size-(j+1)))=((Cd.lnP (s.data.toList.drop (s.size-j))).1+(if(Cd.lnP (s.data.toList.drop (s.size-j))).2 then Cd.dbl (Cd.dg (s[s.size-1-j]' C0))else Cd.dg (s[s.size-1-j]' C0)),!(Cd.lnP (s.data.toList.drop (s.size-j))).2):=V0 Cd.lnP (GD s j hlt);generalize Cd.lnP (s.data.toList.drop (s.size-j))=g at*;generalize Cd.dg (s[s.size-1-j]' C0)=d at*;have HS:=B0 s5;clear s5;obtain⟨a,b⟩:=g;dsimp only at hw o8 n7 HS⊢;obtain⟨Ld,Mg⟩:=hbd;have HW:=B0 hw;clear hw;by_cases hp:j%2=0;(·have Js:((j:Int)%2==0)=true:=X0;by_cases h9:9<2*d;(·go_wp2_with fail;refine(HV.out _).mono ?_;rintro e w' ⟨rfl,rfl⟩;go_wp2;go_round;(case rel=>exact⟨j+1,by omega,by go_num,by rw[HS.out,HW.out];show Value.int _ _=Value.int _ _;congr 1;rw[G0 (by simpa using hp),Cd.dbl_hi d C0];omega⟩);case measure=>exact QH);·go_wp2_with fail;refine(HV.out _).mono ?_;rintro e w' ⟨rfl,rfl⟩;go_wp2;go_round;(case rel=>exact⟨j+1,by omega,by go_num,by rw[HS.out,HW.out];show Value.int _ _=Value.int _ _;congr 1;rw[G0 (by simpa using hp),Cd.dbl_lo d C0];omega⟩);case measure=>exact QH);·have Js:((j:Int)%2==0)=false:=X0;have HP:=B0 hp;clear hp;go_wp2_with fail;refine(HV.out _).mono ?_;rintro e w' ⟨rfl,rfl⟩;go_wp2;go_round;(case rel=>exact⟨j+1,by omega,by go_num,by rw[HS.out,HW.out];show Value.int _ _=Value.int _ _;congr 1;rw[D0 (by simpa using HP.out)]⟩);case measure=>exact QH);·exact zY
def Zkx(s:ByteArray)(w:World)(hs:s.size=9)(HD:Hid (Cd.IP s.data.toList)):
 Calls prog 281 #[.string s] w λe w'=>e=.returned (.int .i64 ((11-Cd.isb s.data.toList%11)%11))/\w=w':=by
 have Sz:s.size<=9:=by omega
 have HN:=B0 hs;clear hs;go_enter func281,ntmps281;go_wp2;go_loop [3,4] (λt i=>∃j:Nat,j<=s.size/\i=.int .i64 (j:Int)/\t=.int .i64 (Cd.isb (s.data.toList.drop (s.size-j)))) (λ_ i=>s.size-(intOf i).toNat)
 case atStart=>exact GE
 case round=>obtain⟨j,hj,rfl,rfl⟩:=hrel;have hb:=Cd.isb_bd _ (Cd.Vh HD.out (s.size-j)) (by rw[Z7];omega);rw[Z7]at hb;obtain⟨o8,n7⟩:=hb;by_cases hlt:j<s.size;(·have hbd:=Cd.dg_bd (HD.out _ (Zl s (s.size-1-j) C0));have HV:=B0 (λw=>VV s j w C0 hlt HD);have s5:Cd.isb (s.data.toList.drop (s.size-(j+1)))=Cd.isb (s.data.toList.drop (s.size-j))+(((s.data.toList.drop (s.size-j)).length:Int)+2)*Cd.dg (s[s.size-1-j]' C0):=V0 Cd.isb (GD s j hlt);rw[Z7,show s.size-(s.size-j)=j by omega]at s5;generalize Cd.isb (s.data.toList.drop (s.size-j))=g at*;generalize Cd.dg (s[s.size-1-j]' C0)=d at*;have HS:=B0 s5;clear s5;obtain⟨Ld,Mg⟩:=hbd;have Be:0<=d*((j:Int)+2):=S8 Ld C0;have Cl:d*((j:Int)+2)<=9*11:=YM Mg C0 C0 C0;go_wp2_with fail;refine(HV.out _).mono ?_;rintro e w' ⟨rfl,rfl⟩;go_wp2;go_round;(case rel=>exact⟨j+1,by omega,by go_num,by rw[HS.out,Int.mul_comm d]⟩);case measure=>exact QH);·exact zY
def oO(s:ByteArray)(w:World)(hs:s.size<=4096)(HD:Hid (Cd.IP s.data.toList)):
 Calls prog 284 #[.string s] w λe w'=>e=.returned (.int .i64 (98-100*Cd.i97 s.data.toList%97))/\w=w':=by
 go_enter func284,ntmps284;go_wp2;go_loop [3,4] (λt i=>∃k:Nat,k<=s.size/\i=.int .i64 ((k:Int)-1)/\t=.int .i64 (Cd.i97 (s.data.toList.take (s.size-k)))) (λ_ i=>(intOf i+1).toNat)
 case atStart=>exact zZ
 case round=>obtain⟨k,hk,rfl,rfl⟩:=hrel;obtain⟨o8,n7⟩:=Cd.i97_bd (s.data.toList.take (s.size-k));by_cases h0:k=0;(·exact yA);·obtain⟨j,rfl⟩:∃j,k=j+1:=⟨k-1,by omega⟩;have Du:j<s.size:=C0;obtain⟨Ld,Mg⟩:=Cd.dg_bd (HD.out _ (Zl s (s.size-1-j) C0));have HV:=B0 (λw=>VV s j w C0 Du HD);have s5:Cd.i97 (s.data.toList.take (s.size-j))=(10*Cd.i97 (s.data.toList.take (s.size-(j+1)))+Cd.dg (s[s.size-1-j]' C0))%97:=(by rw[zX s j Du];unfold Cd.i97;rw[Cd.aA8]);generalize Cd.i97 (s.data.toList.take (s.size-(j+1)))=g at*;exact oP
def Zji(s:ByteArray)(w:World)(hs:s.size<=4096)(HD:Hid (Cd.IP s.data.toList)):
 Calls prog 285 #[.string s] w λe w'=>e=.returned (.int .i64 ((12-Cd.i11 s.data.toList)%11))/\w=w':=by
 go_enter func285,ntmps285;go_wp2;go_loop [3,4] (λt i=>∃k:Nat,k<=s.size/\i=.int .i64 ((k:Int)-1)/\t=.int .i64 (Cd.i11 (s.data.toList.take (s.size-k)))) (λ_ i=>(intOf i+1).toNat)
 case atStart=>exact zZ
 case round=>obtain⟨k,hk,rfl,rfl⟩:=hrel;obtain⟨o8,n7⟩:=Cd.i11_bd (s.data.toList.take (s.size-k));by_cases h0:k=0;(·exact yA);·obtain⟨j,rfl⟩:∃j,k=j+1:=⟨k-1,by omega⟩;have Du:j<s.size:=C0;obtain⟨Ld,Mg⟩:=Cd.dg_bd (HD.out _ (Zl s (s.size-1-j) C0));have HV:=B0 (λw=>VV s j w C0 Du HD);have s5:Cd.i11 (s.data.toList.take (s.size-j))=2*(Cd.i11 (s.data.toList.take (s.size-(j+1)))+Cd.dg (s[s.size-1-j]' C0))%11:=(by rw[zX s j Du];unfold Cd.i11;rw[Cd.aA8]);generalize Cd.i11 (s.data.toList.take (s.size-(j+1)))=g at*;exact oP
def oQ(s:ByteArray)(w:World)(hs:s.size<=4096)(HD:Hid (∀c∈s.data.toList,0<=Cd.Hd c)):
 Calls prog 286 #[.string s] w λe w'=>e=.returned (.int .i64 (Cd.c39 s.data.toList%43))/\w=w':=by
 go_enter func286,ntmps286;go_wp2;go_loop [3,4] (λt i=>∃k:Nat,k<=s.size/\i=.int .i64 (k:Int)/\t=.int .i64 (Cd.c39 (s.data.toList.take k))) (λ_ i=>s.size-(intOf i).toNat)
 case atStart=>exact WQ
 case round=>obtain⟨k,hk,rfl,rfl⟩:=hrel;obtain⟨o8,n7⟩:=Cd.c39_bd (s.data.toList.take k) (λc hc=>HD.out c (I4 hc));rw[W7 s k hk]at n7;by_cases hlt:k<s.size;(·have b7:=HD.out _ (Zl s k hlt);have j0:=(Cd.plc_bd s[k]).2;have s5:Cd.c39 (s.data.toList.take (k+1))=Cd.c39 (s.data.toList.take k)+Cd.Hd s[k]:=kI;generalize Cd.c39 (s.data.toList.take k)=g at*;have HS:=B0 s5;clear s5;go_wp2_with fail;refine(zV _ _).mono ?_;rintro e w' ⟨rfl,rfl⟩;exact kJ);·obtain rfl:k=s.size:=C0;rw[Zu]at o8 n7⊢;clear hk hlt;exact Q9
def yB(a b:Int)(w:World)(h0:0<=a)(h1:a<=9)(h2:0<=b)(h3:b<=9):
 Calls prog 294 #[.int .i64 a,.int .i64 b] w λe w'=>e=.returned (.int .i64 (Cd.Jj a b))/\w=w':=by
 by_cases ha:a<5<;>by_cases hb:b<5;all_goals
  go_enter func294,ntmps294;go_wp2;go_ret;exact⟨Zo (by
   unfold Cd.Jj
   repeat' split
   all_goals omega),rfl⟩
end Go.Proofs.Enc
namespace Go.Proofs.Enc
open Go.Proofs.Tryz
open Go.RowKit
def Zph:∀(c x:Fin 10)(h:10*c.1+x.1<(⟨#[48,51,49,55,53,57,56,54,52,50,55,48,57,50,49,53,52,56,54,51,52,50,48,54,56,55,49,51,53,57,49,55,53,48,57,56,51,52,50,54,54,49,50,51,48,52,53,57,55,56,51,54,55,52,50,48,57,53,56,49,53,56,54,57,55,50,48,49,51,52,56,57,52,53,51,54,50,48,49,55,57,52,51,56,54,49,55,50,48,53,50,53,56,49,52,51,54,55,57,48]⟩:ByteArray).size),((((⟨#[48,51,49,55,53,57,56,54,52,50,55,48,57,50,49,53,52,56,54,51,52,50,48,54,56,55,49,51,53,57,49,55,53,48,57,56,51,52,50,54,54,49,50,51,48,52,53,57,55,56,51,54,55,52,50,48,57,53,56,49,53,56,54,57,55,50,48,49,51,52,56,57,52,53,51,54,50,48,49,55,57,52,51,56,54,49,55,50,48,53,50,53,56,49,52,51,54,55,57,48]⟩:ByteArray)[10*c.1+x.1]'h).toNat:Int)-48)%256=Cd.Rr (c.1:Int) (x.1:Int):=L2
def Zjl(s:ByteArray)(w:World)(hs:s.size<=4096)(HD:Hid (Cd.IP s.data.toList)):
 Calls prog 283 #[.string s] w λe w'=>e=.returned (.int .i64 (Cd.dm s.data.toList))/\w=w':=by
 go_enter func283,ntmps283;go_wp2;go_loop [3,4] (λt i=>∃k:Nat,k<=s.size/\i=.int .i64 ((k:Int)-1)/\t=.int .i64 (Cd.dm (s.data.toList.take (s.size-k)))) (λ_ i=>(intOf i+1).toNat)
 case atStart=>exact zZ
 case round=>obtain⟨k,hk,rfl,rfl⟩:=hrel;obtain⟨o8,n7⟩:=Cd.dm_bd (s.data.toList.take (s.size-k)) (Cd.aDS HD.out _);by_cases h0:k=0;(·exact yA);·obtain⟨j,rfl⟩:∃j,k=j+1:=⟨k-1,by omega⟩;have Du:j<s.size:=C0;obtain⟨Ld,Mg⟩:=Cd.dg_bd (HD.out _ (Zl s (s.size-1-j) C0));have HV:=B0 (λw=>VV s j w C0 Du HD);have s5:Cd.dm (s.data.toList.take (s.size-j))=Cd.Rr (Cd.dm (s.data.toList.take (s.size-(j+1)))) (Cd.dg (s[s.size-1-j]' C0)):=(by rw[zX s j Du];unfold Cd.dm;rw[Cd.aA8]);generalize Cd.dm (s.data.toList.take (s.size-(j+1)))=g at*;generalize Cd.dg (s[s.size-1-j]' C0)=d at*;have HS:=B0 s5;clear s5 h0;obtain⟨c,rfl⟩:=C4 o8;obtain⟨x,rfl⟩:=C4 Ld;go_wp2_with fail;refine(HV.out _).mono ?_;rintro e w' ⟨rfl,rfl⟩;go_wp2;go_round;(case rel=>exact⟨j,by omega,by go_num,by rw[HS.out];exact V0 _ (Zph ⟨c,by omega⟩ ⟨x,by omega⟩ _)⟩);case measure=>simp[intOf]
def Zpg:∀(x:Fin 10)(h:x.1<(⟨#[49,53,55,54,50,56,51,48,57,52]⟩:ByteArray).size),((((⟨#[49,53,55,54,50,56,51,48,57,52]⟩:ByteArray)[x.1]'h).toNat:Int)-48)%256=Cd.perm (x.1:Int):=L2
def ZoT:∀x:Fin 10,Cd.permN 8 (x.1:Int)=(x.1:Int):=L2
def oR(a b:Nat)(x:Int):Cd.permN (a+b) x=Cd.permN a (Cd.permN b x):=by
 induction a with
 |zero=>rw[Nat.zero_add];rfl
 |succ a ih=>rw[show a+1+b=(a+b)+1 by omega];exact V0 Cd.perm ih
def ZiU(q:Nat)(x:Nat)(h:x<10):Cd.permN (8*q) (x:Int)=(x:Int):=by
 induction q with
 |zero=>rfl
 |succ q ih=>rw[show 8*(q+1)=8*q+8 by omega,oR,ZoT ⟨x,h⟩];exact ih
def Zkm(i x:Nat)(h:x<10):Cd.permN (i%8+1) (x:Int)=Cd.permN (i+1) (x:Int):=by
 have e:i+1=(i%8+1)+8*(i/8):=by omega
 have h2:Cd.permN (i+1) (x:Int)=Cd.permN ((i%8+1)+8*(i/8)) (x:Int):=V0 (λn=>Cd.permN n (x:Int)) e;rw[h2,oR (i%8+1) (8*(i/8)),ZiU (i/8) x h]
def Zgb(s:ByteArray)(w:World)(hs:s.size<=4096)(HD:Hid (Cd.IP s.data.toList)):
 Calls prog 282 #[.string s] w λe w'=>e=.returned (.int .i64 (Cd.inv (Cd.vh s.data.toList)))/\w=w':=by
 go_enter func282,ntmps282;go_wp2;go_loop [3,4] (λt i=>∃j:Nat,j<=s.size/\i=.int .i64 (j:Int)/\t=.int .i64 (Cd.vh (s.data.toList.drop (s.size-j)))) (λ_ i=>s.size-(intOf i).toNat)
 case atStart=>exact GE
 case round=>obtain⟨j,hj,rfl,rfl⟩:=hrel;obtain⟨o8,n7⟩:=Cd.aCx _ (Cd.Vh HD.out (s.size-j));by_cases hlt:j<s.size;(·obtain⟨Ld,Mg⟩:=Cd.dg_bd (HD.out _ (Zl s (s.size-1-j) C0));have HV:=B0 (λw=>VV s j w C0 hlt HD);have s5:Cd.vh (s.data.toList.drop (s.size-(j+1)))=Cd.Jj (Cd.vh (s.data.toList.drop (s.size-j))) (Cd.permN ((s.data.toList.drop (s.size-j)).length+1) (Cd.dg (s[s.size-1-j]' C0))):=V0 Cd.vh (GD s j hlt);rw[Z7,show s.size-(s.size-j)=j by omega]at s5;generalize Cd.vh (s.data.toList.drop (s.size-j))=g at*;generalize Cd.dg (s[s.size-1-j]' C0)=d at*;obtain⟨x,rfl⟩:=C4 Ld;rw[<-Zkm j x C0]at s5;have HS:=B0 s5;clear s5;have hm:j%8<8:=WZ _ C0;have Bj:x<=9:=C0;go_wp2_with fail;refine(HV.out _).mono ?_;rintro e w' ⟨rfl,rfl⟩;go_wp2;go_loop [5,6] (λt i=>∃m:Nat,m<=j%8+1/\i=.int .i64 (m:Int)/\t=.int .i64 (Cd.permN m (x:Int))) (λ_ i=>j%8+1-(intOf i).toNat);(case atStart=>exact⟨0,by omega,rfl,rfl⟩);case round=>obtain⟨m,Yo,rfl,rfl⟩:=hrel;obtain⟨Ii,Dh⟩:=Cd.aBn m (x:Int) C0;by_cases Gz:m<j%8+1;(·have HP:Hid (Cd.permN (m+1) (x:Int)=Cd.perm (Cd.permN m (x:Int))):=rfl;generalize Cd.permN m (x:Int)=q at*;obtain⟨q,rfl⟩:=C4 Ii;have hle:(m:Int)<=(j:Int)%8:=C0;go_wp2;go_round;(case rel=>exact⟨m+1,by omega,by go_num,by rw[HP.out];exact V0 _ (Zpg ⟨q,by omega⟩ _)⟩);case measure=>exact QH);·obtain rfl:m=j%8+1:=C0;have hgt:¬((j:Int)%8+1<=(j:Int)%8):=C0;generalize Cd.permN (j%8+1) (x:Int)=q at*;have aDi:((j%8+1:Nat):Int)=(j:Int)%8+1:=C0;rw[aDi];clear Yo Gz aDi;go_wp2_with fail;refine(yB _ _ _ o8 n7 Ii Dh).mono ?_;rintro e w' ⟨rfl,rfl⟩;go_wp2;go_round;(case rel=>exact⟨j+1,by omega,by go_num,by rw[HS.out]⟩);case measure=>exact QH);·obtain rfl:j=s.size:=C0;rw[Y3,B5]at o8 n7⊢;clear hj hlt;obtain⟨c,hc⟩:∃c,Cd.vh s.data.toList=c:=⟨_,rfl⟩;rw[hc]at o8 n7⊢;have HC:=B0 hc;clear hc;obtain⟨Gh,So⟩:=Cd.inv_bd c ⟨o8,n7⟩;go_wp2;go_loop [7] (λt=>∃n:Int,0<=n/\n<=Cd.inv c/\t=.int .i64 n) (λt=>(10-intOf t).toNat);(case atStart=>exact⟨0,by omega,by omega,rfl⟩);case round=>obtain⟨n,IU,Av,rfl⟩:=hrel;by_cases hn:n=Cd.inv c;(·have h0:(Cd.Jj n c==0)=true:=(by rw[hn,Cd.dih_inv c ⟨o8,n7⟩];rfl);have HN:=B0 hn;clear hn;go_wp2_with fail;refine(yB _ _ _ IU C0 o8 n7).mono ?_;rintro e w' ⟨rfl,rfl⟩;go_wp2;go_ret;exact⟨Zo (by rw[HN.out,HC.out]),rfl⟩);·have h0:(Cd.Jj n c==0)=false:=(by rw[O0];exact kL);have HN:Hid (n+1<=Cd.inv c):=(by show n+1<=Cd.inv c;omega);clear hn;go_wp2_with fail;refine(yB _ _ _ IU C0 o8 n7).mono ?_;exact kM
def Zom(s:ByteArray)(w:World)(hs:s.size<=4096)(HD:Hid (Cd.IP s.data.toList)):
 Calls prog 271 #[.int .i64 1,.string s] w λe w'=>e=.returned (.string ⟨(Cd.cmp 1 s.data.toList).toArray⟩)/\w=w':=by
 go_enter func271,ntmps271;go_wp2_with fail;refine(Zmd s _ hs HD).mono ?_;rintro e w' ⟨rfl,rfl⟩;go_wp2_with fail;refine(XT _ _ C0 C0).mono ?_;rintro e w' ⟨rfl,rfl⟩;go_wp2;go_ret;exact⟨ZC YR,rfl⟩
def Zon(s:ByteArray)(w:World)(hs:s.size<=4096)(HD:Hid (Cd.IP s.data.toList)):
 Calls prog 271 #[.int .i64 2,.string s] w λe w'=>e=.returned (.string ⟨(Cd.cmp 2 s.data.toList).toArray⟩)/\w=w':=by
 go_enter func271,ntmps271;go_wp2_with fail;refine(Zky s _ hs HD).mono ?_;rintro e w' ⟨rfl,rfl⟩;go_wp2_with fail;refine(XT _ _ C0 C0).mono ?_;rintro e w' ⟨rfl,rfl⟩;go_wp2;go_ret;exact⟨ZC YR,rfl⟩
def Zoo(s:ByteArray)(w:World)(hs:s.size=9)(HD:Hid (Cd.IP s.data.toList)):
 Calls prog 271 #[.int .i64 3,.string s] w λe w'=>e=.returned (.string ⟨(Cd.cmp 3 s.data.toList).toArray⟩)/\w=w':=by
 have HN:=B0 hs;clear hs;go_enter func271,ntmps271;go_wp2_with fail;refine(Zkx s _ HN.out HD).mono ?_;rintro e w' ⟨rfl,rfl⟩;go_wp2_with fail;refine(XT _ _ C0 C0).mono ?_;rintro e w' ⟨rfl,rfl⟩;go_wp2;go_ret;exact⟨ZC YR,rfl⟩
def Zop(s:ByteArray)(w:World)(hs:s.size<=4096)(HD:Hid (Cd.IP s.data.toList)):
 Calls prog 271 #[.int .i64 4,.string s] w λe w'=>e=.returned (.string ⟨(Cd.cmp 4 s.data.toList).toArray⟩)/\w=w':=by
 have hb:=Cd.inv_bd _ (Cd.aCx _ HD.out);go_enter func271,ntmps271;go_wp2_with fail;refine(Zgb s _ hs HD).mono ?_;rintro e w' ⟨rfl,rfl⟩;go_wp2_with fail;refine(XT _ _ C0 C0).mono ?_;rintro e w' ⟨rfl,rfl⟩;go_wp2;go_ret;exact⟨ZC YR,rfl⟩
def Zoq(s:ByteArray)(w:World)(hs:s.size<=4096)(HD:Hid (Cd.IP s.data.toList)):
 Calls prog 271 #[.int .i64 5,.string s] w λe w'=>e=.returned (.string ⟨(Cd.cmp 5 s.data.toList).toArray⟩)/\w=w':=by
 have hb:=Cd.dm_bd _ HD.out;go_enter func271,ntmps271;go_wp2_with fail;refine(Zjl s _ hs HD).mono ?_;rintro e w' ⟨rfl,rfl⟩;go_wp2_with fail;refine(XT _ _ C0 C0).mono ?_;rintro e w' ⟨rfl,rfl⟩;go_wp2;go_ret;exact⟨ZC YR,rfl⟩
def Zot(s:ByteArray)(w:World)(hs:s.size<=4096)(HD:Hid (Cd.IP s.data.toList)):
 Calls prog 271 #[.int .i64 8,.string s] w λe w'=>e=.returned (.string ⟨(Cd.cmp 8 s.data.toList).toArray⟩)/\w=w':=by
 have hb:=Cd.i11_bd s.data.toList;go_enter func271,ntmps271;go_wp2_with fail;refine(Zji s _ hs HD).mono ?_;rintro e w' ⟨rfl,rfl⟩;go_wp2_with fail;refine(XT _ _ C0 C0).mono ?_;rintro e w' ⟨rfl,rfl⟩;go_wp2;go_ret;exact⟨ZC YR,rfl⟩
def Zor(s:ByteArray)(w:World)(hs:s.size<=4096)(HD:Hid (Cd.IP s.data.toList)):
 Calls prog 271 #[.int .i64 6,.string s] w λe w'=>e=.returned (.string ⟨(Cd.cmp 6 s.data.toList).toArray⟩)/\w=w':=by
 obtain⟨o8,n7⟩:=Cd.i97_bd s.data.toList;go_enter func271,ntmps271;go_wp2_with fail;refine(oO s _ hs HD).mono ?_;rintro e w' ⟨rfl,rfl⟩;go_wp2_with fail;refine(XT _ _ C0 C0).mono ?_;rintro e w' ⟨rfl,rfl⟩;go_wp2_with fail;refine(oO s _ hs HD).mono ?_;rintro e w' ⟨rfl,rfl⟩;go_wp2_with fail;refine(XT _ _ C0 C0).mono ?_;rintro e w' ⟨rfl,rfl⟩;go_wp2;go_ret;exact⟨rfl,rfl⟩
def Zos(s:ByteArray)(w:World)(hs:s.size<=4096)(HD:Hid (∀c∈s.data.toList,0<=Cd.Hd c)):
 Calls prog 271 #[.int .i64 7,.string s] w λe w'=>e=.returned (.string ⟨(Cd.cmp 7 s.data.toList).toArray⟩)/\w=w':=by
 go_enter func271,ntmps271;go_wp2_with fail;refine(oQ s _ hs HD).mono ?_;rintro e w' ⟨rfl,rfl⟩;go_wp2_with fail;refine(oQ s _ hs HD).mono ?_;rintro e w' ⟨rfl,rfl⟩;go_wp2;go_ret;exact⟨ZC kK,rfl⟩
def oS(k:Nat)(s:ByteArray)(w:World)(h1:1<=k)(h8:k<=8)(hs:s.size<=4096)(hd:∀c∈s.data.toList,Cd.datB k (c.toNat:Int)=true)(h9:k=3->s.size=9):
 Calls prog 271 #[.int .i64 (k:Int),.string s] w λe w'=>e=.returned (.string ⟨(Cd.cmp k s.data.toList).toArray⟩)/\w=w':=by
 match k,h1,h8 with
 |1,_,_=>exact Zom s w hs (ZN hd)
 |2,_,_=>exact Zon s w hs (ZN hd)
 |3,_,_=>exact Zoo s w (h9 rfl) (ZN hd)
 |4,_,_=>exact Zop s w hs (ZN hd)
 |5,_,_=>exact Zoq s w hs (ZN hd)
 |6,_,_=>exact Zor s w hs (ZN hd)
 |7,_,_=>exact Zos s w hs (λc hc=>by have:=hd c hc;simpa[Cd.datB]using this)
 |8,_,_=>exact Zot s w hs (ZN hd)
end Go.Proofs.Enc
namespace Go.Proofs.Enc
open Go.Proofs.Tryz
open Go.RowKit
def ZgJ(k:Int)(s:ByteArray)(w:World)(h:k<1\/8<k):
 Calls prog 247 #[.int .i64 k,.string s] w λe w'=>e=.returned (.tuple #[.string ⟨#[]⟩,.int .i64 1])/\w=w':=by
 by_cases h1:k<1
 .clear h;go_enter func247,ntmps247;exact RO
 .have h2:8<k:=C0;clear h;go_enter func247,ntmps247;exact RO
def ZmQ(k n:Nat)(h:0<n):Cd.fits k (n+Cd.size k)=(decide (k≠3) || decide (n=9)):=by
 unfold Cd.fits;by_cases h3:k=3;·subst h3;rw[K4];simp[show Cd.size 3=1 from rfl]
 .simp[h3];omega
def ZgK(k:Nat)(s:ByteArray)(w:World)(Hr:1<=k)(hk8:k<=8)(hs:s.size<=9223372036854775807):
 Calls prog 247 #[.int .i64 (k:Int),.string s] w λe w'=>e=.returned (.tuple #[.string ⟨(Cd.comp k s.data.toList).1.toArray⟩,.int .i64 (Cd.comp k s.data.toList).2])/\w=w':=by
 by_cases h0:s.size=0
 .have HV:Hid (Cd.comp k s.data.toList=([],5)):=kS;have hb:((s.size:Int)==0)=true:=TK;clear h0;exact oT
 .have k7:s.data.toList≠ []:=λh=>h0 ((C8 s).1 h);have hb:((s.size:Int)==0)=false:=QJ;have Ju:0<s.size:=C0;clear h0;by_cases hl:4096<s.size;(·have HV:Hid (Cd.comp k s.data.toList=([],4)):=kU;clear k7;exact oT);·have HV:Hid (Cd.comp k s.data.toList=if s.data.toList.all (λc=>Cd.datB k c.toNat)=false then([],6)else if Cd.fits k (s.size+Cd.size k)=false then([],7)else(Cd.cmp k s.data.toList,0)):=kV;have Ih:s.size<=4096:=C0;have HFT:=B0 (ZmQ k s.size Ju);clear k7 hl;go_enter func247,ntmps247;go_wp2;go_loop [6] (λi=>∃j:Nat,j<=s.size/\i=.int .i64 (j:Int)/\Hid ((s.data.toList.take j).all (λc=>Cd.datB k c.toNat)=true)) (λi=>s.size-(intOf i).toNat);(case atStart=>exact WQ);case round=>obtain⟨j,hj,rfl,ha⟩:=hrel;by_cases hlt:j<s.size;(·have H3:=B0 (Zku k s[j] w hk8);have HA:=B0 (NE s (λc=>Cd.datB k c.toNat) j hlt);have HF:=B0 (NF s (λc=>Cd.datB k c.toNat) j hlt);cases hp:Cd.datB k (s[j].toNat:Int);(·rw[hp]at H3;have HP:=B0 hp;clear hp;go_wp2_with fail;refine H3.out.mono ?_;rintro e w1 ⟨rfl,rfl⟩;go_wp2;go_ret2;exact⟨by rw[HV.out,G0 (HF.out HP.out)];rfl,rfl⟩);·rw[hp]at H3;have HP:=B0 hp;clear hp;go_wp2_with fail;refine H3.out.mono ?_;rintro e w1 ⟨rfl,rfl⟩;go_wp2;go_round;(case rel=>exact⟨j+1,by omega,by go_num,by show _=_;rw[HA.out,ha.out];simpa using HP.out⟩);case measure=>exact QH);·obtain rfl:j=s.size:=C0;rw[Zu]at ha;have Ft:=M1.1 ha.out;have Hh:=B0 (HV.out.trans (D0 (by rw[ha.out];exact Bool.noConfusion)));rw[HFT.out]at Hh;clear hj hlt;by_cases h3:k=3;(·subst h3;by_cases h9:s.size=9;(·have hb9:((s.size:Int) !=9)=false:=(by rw[h9];rfl);have HC:=B0 (oS 3 s w Hr hk8 Ih Ft (λ_=>h9));have En:Hid (Cd.comp 3 s.data.toList=(Cd.cmp 3 s.data.toList,0)):=(by show _=_;rw[Hh.out,h9];rfl);clear h9 Ft;exact oU);·have hb9:((s.size:Int) !=9)=true:=EM;have En:Hid (Cd.comp 3 s.data.toList=([],7)):=(by show _=_;rw[Hh.out];simp[h9]);clear h9 Ft;go_wp2;go_ret2;exact⟨by rw[En.out];rfl,rfl⟩);·have hb3:((k:Int)==3)=false:=QJ;have HC:=B0 (oS k s w Hr hk8 Ih Ft (λe=>absurd e h3));have En:Hid (Cd.comp k s.data.toList=(Cd.cmp k s.data.toList,0)):=(by show _=_;rw[Hh.out];simp[h3]);clear h3 Ft;exact oU
def ZgI(k:Int)(s:ByteArray)(w:World)(hs:s.size<=9223372036854775807):
 Calls prog 247 #[.int .i64 k,.string s] w λe w'=>e=.returned (.tuple #[.string ⟨(Cd.compI k s.data.toList).1.toArray⟩,.int .i64 (Cd.compI k s.data.toList).2])/\w=w':=by
 by_cases h:k<1\/8<k
 .rw[Cd.compI,G0 h];exact ZgJ k s w h
 .rw[Cd.compI,D0 h];obtain⟨n,rfl⟩:=C4 (show 0<=k by omega);exact ZgK n s w C0 C0 hs
def ZlJ(k:Nat)(l:List UInt8):(Cd.cmp k l).length<=2:=by unfold Cd.cmp;split<;>simp
def yC(k:Int)(l:List UInt8):(Cd.compI k l).1.length<=2:=by
 unfold Cd.compI Cd.comp
 repeat' split
 all_goals first|exact ZlJ _ _|simp
def Zks(k:Int)(l:List UInt8)(h:(Cd.compI k l).2=0):l.length<=4096:=by
 unfold Cd.compI Cd.comp at h
 repeat' split at h
 all_goals first|omega|simp at h
def oV(k:Int)(s:ByteArray)(w:World)(hs:s.size<=9223372036854775807):
 Calls prog 197 #[.int .i64 k,.string s] w λe w'=>e=.returned (.tuple #[.string ⟨(Cd.app k s.data.toList).1.toArray⟩,.int .i64 (Cd.app k s.data.toList).2])/\w=w':=by
 have HC:=B0 (ZgI k s w hs);have hl:=yC k s.data.toList;have x7:=Zks k s.data.toList;have HA:=B0 (Cd.app.eq_1 k s.data.toList);rw[Za]at HA x7;generalize Cd.compI k s.data.toList=r at*;obtain⟨c,x⟩:=r;dsimp only at HA hl x7 HC;by_cases h0:x=0
 .have aIp:=x7 h0;subst h0;rw[G0 rfl]at HA;by_cases h4:4096<s.size+c.length;(·rw[G0 h4]at HA;clear x7;exact oY);·rw[D0 h4]at HA;have hX:=B0 (show s++⟨c.toArray⟩=(⟨(s.data.toList++c).toArray⟩:ByteArray)from Zi L0);clear x7;go_enter func197,ntmps197;go_wp2_with fail;refine HC.out.mono ?_;rintro e w1 ⟨rfl,rfl⟩;go_wp2;go_ret2;exact⟨by rw[HA.out];exact Zma hX.out rfl,rfl⟩
 .rw[D0 h0]at HA;have hb:(x !=0)=true:=UN;clear x7 h0;exact oY
end Go.Proofs.Enc
end
