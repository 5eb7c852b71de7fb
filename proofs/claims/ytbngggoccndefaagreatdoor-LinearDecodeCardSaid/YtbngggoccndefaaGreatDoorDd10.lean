/-
  Laid together.
-/
import Derived.Test.YtbngggoccndefaaGreatDoorDd09
set_option maxHeartbeats 16000000
set_option maxRecDepth 100000
set_option linter.unusedVariables false
set_option linter.unusedSimpArgs false
set_option linter.ambiguousOpen false
namespace Go.Proofs.YtbngggoccndefaaGreatDoor
open Go.Proofs.Tryz
section
open Go.RowKit
theorem Zdp (l:List UInt8) (c:UInt8):Tw.sumCb (l++[c])=Tw.sumCb l+Lib.indexByte Tw.cCb c:=by simp[Tw.sumCb]
theorem Zkr (l:List UInt8) (h:∀c∈l,0<=Lib.indexByte Tw.cCb c):∀a:Int,a<=(l.map (Lib.indexByte Tw.cCb)).foldl (·+·) a∧(l.map (Lib.indexByte Tw.cCb)).foldl (·+·) a<=a+20*l.length:=by
 induction l with
 |nil=>intro a;simp
 |cons c l ih=>intro a;have h1:=ih (fun x hx=>h x (Zne _ hx)) (a+Lib.indexByte Tw.cCb c);have h2:=h c (Znh ..);obtain⟨n,hn⟩:=Znv h2;have h3:=Zai _ _ _ hn;have h4:Tw.cCb.length=20:=rfl;simp only[ZnU,ZmX,ZmQ]at h1⊢;omega
theorem Zfb (l:List UInt8) (h:∀c∈l,0<=Lib.indexByte Tw.cCb c):0<=Tw.sumCb l∧Tw.sumCb l<=20*l.length:=by have:=Zkr l h 0;unfold Tw.sumCb;omega
theorem Zg5:∀c:UInt8,(0<=Lib.indexByte Tw.eCb c∨0<=Lib.indexByte Tw.dCb c)->0<=Lib.indexByte Tw.cCb c:=by
 have h:∀i:Fin 256,(0<=Lib.indexByte Tw.eCb (UInt8.ofNat i.val)∨0<=Lib.indexByte Tw.dCb (UInt8.ofNat i.val))->0<=Lib.indexByte Tw.cCb (UInt8.ofNat i.val):=Qct
 intro c;have:=h ⟨c.toNat,c.toNat_lt⟩;exact QfH
theorem ZlT (l:List UInt8) (h:2<=l.length):l=l.take 1++((l.drop 1).take (l.length-2)++l.drop (l.length-1)):=by
 have h1:l.drop (l.length-1)=(l.drop 1).drop (l.length-2):=by rw[Zoi];congr 1;omega
 rw[h1,ZnX,ZnX]
theorem Ze2 (l:List UInt8) (h:2<=l.length) (h1:Tw.only (l.take 1) Tw.eCb=true) (h2:Tw.only (l.drop (l.length-1)) Tw.eCb=true) (h3:Tw.only ((l.drop 1).take (l.length-2)) Tw.dCb=true):
 ∀c∈l,0<=Lib.indexByte Tw.cCb c:=by
 intro c hc
 rw[ZlT l h,ZnR,ZnR]at hc
 unfold Tw.only at h1 h2 h3
 rw[Znd]at h1 h2 h3
 rcases hc with hc|hc|hc
 ·exact Zg5 c (.inl (by simpa using h1 c hc))
 ·exact Zg5 c (.inr (by simpa using h3 c hc))
 ·exact Zg5 c (.inl (by simpa using h2 c hc))
theorem Zkh:∀v:Nat,v<16->((⟨#[48,49,50,51,52,53,54,55,56,57,45,36,58,47,46,43]⟩:ByteArray).extract v (v+1)).data.toList=[Tw.dCb.getD v 0]:=by
 intro v hv;rw[Zs];have:∀v:Fin 16,(([48,49,50,51,52,53,54,55,56,57,45,36,58,47,46,43]:List UInt8).drop v.val).take (v.val+1-v.val)=[Tw.dCb.getD v.val 0]:=by decide
 exact this ⟨v,hv⟩
theorem Zle (a b c:ByteArray):(a++b++c).data.toList=a.data.toList++b.data.toList++c.data.toList:=by simp
theorem Ziu (a b:ByteArray):(a++b).data.toList=a.data.toList++b.data.toList:=by simp
theorem Zgv (s:ByteArray) (check:Bool) (w:World) (hs:s.size<=1000000):
 Calls prog 169 #[.string s,.bool check] w fun e w'=>e=.returned (.tuple #[strV (Tw.compCb s.data.toList check).1,.int .i64 (Tw.compCb s.data.toList check).2])∧Ext w w':=by
 have HT:=ZmE (Tw.compCb.eq_1 s.data.toList check)
 rw[Zb]at HT
 generalize Tw.compCb s.data.toList check=res at*
 by_cases h2:s.size<2
 ·rw[ZmH h2]at HT;have d1:decide ((s.size:Int)-1<1)=true:=Qcm;go_enter func169,ntmps169;go_wp2;go_ret2;exact⟨by rw[HT.out];rfl,Ext.refl _⟩
 ·rw[ZmF h2]at HT;have d1:decide ((s.size:Int)-1<1)=false:=Qcm;have hsn:((s.size:Int)-1).toNat=s.size-1:=QhN;have HO1:Hid (∀w,Calls prog 167 #[.string (s.extract 0 1),.string ⟨#[65,66,67,68]⟩] w fun e w'=>e=.returned (.bool (Tw.only (s.data.toList.take 1) Tw.eCb))∧w=w'):=
   ZmE (fun w=>by rw[<-Zr];exact ZaW (s.extract 0 1) ⟨#[65,66,67,68]⟩ w Qh2)
  have HO2:Hid (∀w,Calls prog 167 #[.string (s.extract (s.size-1) s.size),.string ⟨#[65,66,67,68]⟩] w fun e w'=>e=.returned (.bool (Tw.only (s.data.toList.drop (s.size-1)) Tw.eCb))∧w=w'):=
   ZmE (fun w=>by rw[<-Z2];exact ZaW (s.extract (s.size-1) s.size) ⟨#[65,66,67,68]⟩ w Qh2)
  have HO3:Hid (∀w,Calls prog 167 #[.string (s.extract 1 (s.size-1)),.string ⟨#[48,49,50,51,52,53,54,55,56,57,45,36,58,47,46,43]⟩] w fun e w'=>e=.returned (.bool (Tw.only ((s.data.toList.drop 1).take (s.size-2)) Tw.dCb))∧w=w'):=
   ZmE (fun w=>by rw[show s.size-2=s.size-1-1 by omega,<-Zs];exact ZaW (s.extract 1 (s.size-1)) ⟨#[48,49,50,51,52,53,54,55,56,57,45,36,58,47,46,43]⟩ w Qh2)
  have HV:=ZmE (Ze2 s.data.toList Qic);rw[Zb]at HV;generalize Tw.only (s.data.toList.take 1) Tw.eCb=b1 at*;generalize Tw.only (s.data.toList.drop (s.size-1)) Tw.eCb=b2 at*;generalize Tw.only ((s.data.toList.drop 1).take (s.size-2)) Tw.dCb=b3 at*;cases b1;(·rw[ZmH rfl]at HT;go_enter func169,ntmps169;go_wp2_with fail;refine(HO1.out _).mono ?_;exact Qa7);·rw[ZmF Bool.noConfusion]at HT;cases b2;(·rw[ZmH rfl]at HT;go_enter func169,ntmps169;go_wp2_with fail;refine(HO1.out _).mono ?_;rintro e w1 ⟨rfl,rfl⟩;go_wp2_with fail;refine(HO2.out _).mono ?_;exact Qa7);·rw[ZmF Bool.noConfusion]at HT;cases b3;(·rw[ZmH rfl]at HT;go_enter func169,ntmps169;go_wp2_with fail;refine(HO1.out _).mono ?_;rintro e w1 ⟨rfl,rfl⟩;go_wp2_with fail;refine(HO2.out _).mono ?_;rintro e w1 ⟨rfl,rfl⟩;go_wp2_with fail;refine(HO3.out _).mono ?_;exact Qa7);·rw[ZmF Bool.noConfusion]at HT;have HVV:=ZmE (HV.out rfl rfl rfl);clear HV;cases check;(·rw[ZmH rfl]at HT;go_enter func169,ntmps169;go_wp2_with fail;refine(HO1.out _).mono ?_;rintro e w1 ⟨rfl,rfl⟩;go_wp2_with fail;refine(HO2.out _).mono ?_;rintro e w1 ⟨rfl,rfl⟩;go_wp2_with fail;refine(HO3.out _).mono ?_;exact Qez);·rw[ZmF Bool.noConfusion]at HT;go_enter func169,ntmps169;go_wp2_with fail;refine(HO1.out _).mono ?_;rintro e w1 ⟨rfl,rfl⟩;go_wp2_with fail;refine(HO2.out _).mono ?_;rintro e w1 ⟨rfl,rfl⟩;go_wp2_with fail;refine(HO3.out _).mono ?_;rintro e w1 ⟨rfl,rfl⟩;clear HO1 HO2 HO3;go_wp2;go_loop [39,7] (fun i x=>∃j:Nat,j<=s.size∧i=.int .i64 (j:Int)∧x=.int .i64 (Tw.sumCb (s.data.toList.take j))) (fun i _=>s.size-(intOf i).toNat);(case atStart=>exact Qde);case round=>obtain⟨j,hj,rfl,rfl⟩:=hrel;have hb:=Zfb (s.data.toList.take j) (fun c hc=>HVV.out c (Zn0 hc));rw[Zaj s j hj]at hb;obtain⟨hb1,hb2⟩:=hb;by_cases hlt:j<s.size;(·have HI:=ZmE (fun w=>Zb7 ⟨#[48,49,50,51,52,53,54,55,56,57,45,36,58,47,46,43,65,66,67,68]⟩ s[j] w);have HSN:=ZmE (Zdp (s.data.toList.take j) s[j]);rw[<-Z4 s j hlt]at HSN;have hi0:=HVV.out s[j] (Zj s j hlt);have hi1:Lib.indexByte Tw.cCb s[j]<20:=Qem;change Hid (∀w,Calls prog 56 #[.string ⟨#[48,49,50,51,52,53,54,55,56,57,45,36,58,47,46,43,65,66,67,68]⟩,.int .u8 (s[j].toNat:Int)] w fun e w'=>e=.returned (.int .i64 (Lib.indexByte Tw.cCb s[j]))∧w=w')at HI;exact Qb6);·obtain rfl:j=s.size:=QhN;rw[Zx]at hb1 hb2⊢;clear hj hlt;generalize Tw.sumCb s.data.toList=g at*;obtain⟨v,hv,hv16⟩:∃v:Nat,(16-g%16)%16=(v:Int)∧v<16:=⟨((16-g%16)%16).toNat,by omega,by omega⟩;rw[hv,ZnW]at HT;have HDC:=ZmE (Zkh v hv16);obtain⟨u,hu⟩:∃u:Nat,v+1=u:=⟨_,rfl⟩;rw[hu]at HDC;have hv1:(v:Int)+1=(u:Int):=QhN;have hu1:v<=u:=QhN;have hu2:u<=16:=QhN;clear hu;go_wp2;go_quiet (fail);go_wp2;go_ret2;refine⟨?_,?_⟩;(·rw[HT.out];refine Z8 ?_ rfl;rw[Zle,Zr,HDC.out,Z2]);·exact(Ext.refl _).drewN _
theorem ZgX (s:ByteArray) (check:Bool) (w:World) (hs:s.size<=1000000) (h2:2<=s.size):
 Calls prog 170 #[.string s,.bool check] w fun e w'=>e=.returned (strV (Tw.textCb s.data.toList check))∧Ext w w':=by
 have HT:=ZmE (Tw.textCb.eq_1 s.data.toList check)
 rw[Zb]at HT
 generalize Tw.textCb s.data.toList check=res at*
 cases check
 ·rw[ZmF Bool.noConfusion]at HT;go_enter func170,ntmps170;exact Qfw
 ·rw[ZmH rfl]at HT;have hn1:((s.size:Int)-1).toNat=s.size-1:=QhN;have hn2:((s.size:Int)-2).toNat=s.size-2:=QhN;go_enter func170,ntmps170;go_wp2;go_quiet (fail);go_wp2;go_ret;refine⟨?_,(Ext.refl _).drewN _⟩;rw[HT.out];refine Za2 ?_;rw[Ziu,Zr,Z2]
theorem ZfL (s:ByteArray) (check:Bool) (w:World) (hs:s.size<=1000000) (h2:1<=s.size):
 Calls prog 175 #[.string s,.bool check] w fun e w'=>e=.returned (strV (Tw.textItf s.data.toList check))∧Ext w w':=by
 have HT:=ZmE (Tw.textItf.eq_1 s.data.toList check)
 rw[Zb]at HT
 generalize Tw.textItf s.data.toList check=res at*
 cases check
 ·rw[ZmF Bool.noConfusion]at HT;go_enter func175,ntmps175;exact Qfw
 ·rw[ZmH rfl]at HT;have hn1:((s.size:Int)-1).toNat=s.size-1:=QhN;go_enter func175,ntmps175;go_wp2;go_ret;refine⟨?_,Ext.refl _⟩;rw[HT.out];refine Za2 ?_;rw[Zr]
structure ItfAt (w:World) (bc bp bz ba bn:Nat):Prop where
 a0:w.cell? ⟨ba,0,none⟩=some (.int .i64 5)
 a1:w.cell? ⟨ba,1,none⟩=some (.func (.func 236) #[] #[.pointer (some ⟨bc,0,none⟩),.pointer (some ⟨bp,0,none⟩),.pointer (some ⟨bz,0,none⟩)])
 n:w.cell? ⟨bn,0,none⟩=some (.int .i64 7)
 la:ba<w.heap.size
 ln:bn<w.heap.size
theorem ItfAt.ext {w w':World} {bc bp bz ba bn:Nat} (h:ItfAt w bc bp bz ba bn) (hx:Ext w w'):ItfAt w' bc bp bz ba bn:=
 ⟨by rw[hx.cell (p:=⟨ba,0,none⟩) h.la];exact h.a0,by rw[hx.cell (p:=⟨ba,1,none⟩) h.la];exact h.a1,by rw[hx.cell (p:=⟨bn,0,none⟩) h.ln];exact h.n,
  Znc h.la hx.size,Znc h.ln hx.size⟩
theorem Zek (bc bp bz ba bn:Nat) (n:Nat) (check:Bool) (w:World) (hA:ItfAt w bc bp bz ba bn) (hn:n<=9223372036854775806):
 Calls prog 171 #[.int .i64 (n:Int),.bool check,.pointer (some ⟨bn,0,none⟩),.pointer (some ⟨ba,0,none⟩)] w
  fun e w'=>e=.returned (.bool (Tw.countsItf n))∧w=w':=by
 obtain⟨h1,_,h3,_,_⟩:=hA
 by_cases h7:n<7
 ·have HT:Hid (Tw.countsItf n=false):=ZmE (by simp[Tw.countsItf];omega);generalize Tw.countsItf n=res at*;obtain rfl|rfl|rfl|rfl|rfl|rfl|rfl:n=0∨n=1∨n=2∨n=3∨n=4∨n=5∨n=6:=QhN;all_goals go_enter func171,ntmps171;go_wp2;all_goals go_ret;exact⟨Zi HT.out.symm,rfl⟩
 ·have HT:=ZmE (Tw.countsItf.eq_1 n);have h7':0<=(n:Int)-7:=QhN;go_enter func171,ntmps171;go_wp2;all_goals go_ret;refine⟨Zi ?_,rfl⟩;rw[HT.out,Zn7];simp;omega
theorem Zfo (s:ByteArray) (check:Bool) (w:World) (hs:s.size<=1000000):
 Calls prog 172 #[.string s,.bool check] w fun e w'=>e=.returned (.tuple #[strV (Tw.compItf s.data.toList check).1,.int .i64 (Tw.compItf s.data.toList check).2])∧Ext w w':=by
 have HO:Hid (∀w,Calls prog 167 #[.string s,.string ⟨#[48,49,50,51,52,53,54,55,56,57]⟩] w fun e w'=>e=.returned (.bool (Tw.only s.data.toList Tw.cItf))∧w=w'):=
  ZmE (fun w=>ZaW s ⟨#[48,49,50,51,52,53,54,55,56,57]⟩ w QhN)
 have HT:=ZmE (Tw.compItf.eq_1 s.data.toList check)
 have HC:=ZmE (fun w=>Za5 1 s w QhN)
 generalize Tw.compItf s.data.toList check=res at*
 generalize Tw.only s.data.toList Tw.cItf=b1 at*
 cases b1
 ·rw[ZmH rfl]at HT;exact Qhe
 ·rw[ZmF Bool.noConfusion]at HT;cases check;(·rw[ZmH rfl,Zb]at HT;by_cases h2:s.size%2=0;(·rw[ZmH h2]at HT;have d1:((s.size:Int)%2 !=0)=false:=Qjg;clear h2;go_enter func172,ntmps172;go_wp2_with fail;refine(HO.out _).mono ?_;exact Qez);·rw[ZmF h2]at HT;have d1:((s.size:Int)%2 !=0)=true:=Qi4;clear h2;exact Qhe);·rw[ZmF Bool.noConfusion]at HT;by_cases h0:(Cd.compI 1 s.data.toList).2=0;(·rw[ZmH h0]at HT;rw[h0]at HC;clear h0;have hdl:=Zc7 1 s.data.toList;generalize(Cd.compI 1 s.data.toList).1=d at*;obtain⟨D,rfl⟩:∃D:ByteArray,d=D.data.toList:=⟨⟨d.toArray⟩,by simp⟩;rw[Zy]at HC;rw[Zb]at hdl;rw[ZmM,Zb,Zb]at HT;by_cases h2:(s.size+D.size)%2=0;(·rw[ZmH h2]at HT;have d1:(((s.size:Int)+(D.size:Int))%2 !=0)=false:=Qjg;clear h2;go_enter func172,ntmps172;go_wp2_with fail;refine(HO.out _).mono ?_;rintro e w1 ⟨rfl,rfl⟩;go_wp2_with fail;refine(HC.out _).mono ?_;rintro e w2 ⟨rfl,hx2⟩;go_wp2;go_ret2;exact⟨by rw[HT.out];exact Z8 QhQ rfl,hx2⟩);·rw[ZmF h2]at HT;have d1:(((s.size:Int)+(D.size:Int))%2 !=0)=true:=Qi4;clear h2;exact QcC);·rw[ZmF h0]at HT;have hb:((Cd.compI 1 s.data.toList).2 !=0)=true:=(by rw[ZnA];exact h0);generalize(Cd.compI 1 s.data.toList).2=x at*;generalize(Cd.compI 1 s.data.toList).1=d at*;clear h0;exact QcC
theorem Zjd (a b:List UInt8) (k:Nat) (ha:k<a.length) (hb:k<b.length):Tw.mix (a.take (k+1)) (b.take (k+1))=Tw.mix (a.take k) (b.take k)++[a[k],b[k]]:=by
 induction k generalizing a b with
 |zero=>
  cases a with
  |nil=>simp at ha
  |cons x a=>
   cases b with
   |nil=>simp at hb
   |cons y b=>simp[Tw.mix]
 |succ k ih=>
  cases a with
  |nil=>simp at ha
  |cons x a=>
   cases b with
   |nil=>simp at hb
   |cons y b=>simp only[ZmQ]at ha hb;simp only[Zpw,Tw.mix,Zny,List.getElem_cons_succ];rw[ih a b QhN QhN]
theorem Zgh:∀a b:List UInt8,(Tw.mix a b).length<=2*a.length
 | [],_=>by simp[Tw.mix]
 |_::_,[]=>by simp[Tw.mix]
 |_::a,_::b=>by have:=Zgh a b;simp only[Tw.mix,ZmQ];omega
theorem ZeM:∀(a b:List UInt8) (n:Nat),a.length=n->b.length=n->(Tw.mix a b).length=2*n
 | [],_,n,h,_=>by simp only[ZnE]at h;subst h;simp[Tw.mix]
 |_::_,[],n,h,h'=>by simp only[ZnE,ZmQ]at h h';omega
 |_::a,_::b,n,h,h'=>by simp only[ZmQ]at h h';have:=ZeM a b (n-1) QhN QhN;simp only[Tw.mix,ZmQ];omega
theorem Ze8:∀(n:Nat) (a b:List UInt8),a.length=2*n->Tw.drawPairs (a++b)=Tw.drawPairs a++Tw.drawPairs b
 |0,a,b,h=>by obtain rfl:=Znq h;simp[Tw.drawPairs]
 |n+1,a,b,h=>by
  match a,h with
  |x::y::a,h=>simp only[ZmQ]at h;simp only[Zny,Tw.drawPairs,Znu];rw[Ze8 n a b QhN]
theorem ZjM (s:ByteArray) (p q r:Nat) (hq:q=p+1) (hr:r=p+2) (h1:p<s.size) (h2:q<s.size):s.data.toList.take r=s.data.toList.take p++[s[p],s[q]]:=by subst hq hr;rw[show p+2=p+1+1 by omega,Z4 s (p+1) h2,Z4 s p QhN,Znu];rfl
theorem Zfr (cs ps:ByteArray) (bc bp bz ba bn:Nat) (s:ByteArray) (h:Nat) (w:World) (hI:ItfAt w bc bp bz ba bn) (hA:AlphAt w bc bp bz cs ps 5) (hcs:cs.data.toList=Tw.cItf) (hps:ps.data.toList=Tw.pItf) (hs:s.size<=100000)
 (hev:s.size=2*h) (hdig:∀c∈s.data.toList,(Tw.pat Tw.cItf Tw.pItf 5 c).1.length=5):
 Calls prog 173 #[.string s,.pointer (some ⟨ba,0,none⟩)] w
  fun e w'=>e=.returned (strV (Tw.drawItf s.data.toList))∧Ext w w':=by
 have kc:=fun(w:World) (C:Array Value) (n c:Nat)=>Zqu (P:=prog) w 90 5 C n c underlying90 underlying5
 have HP:Hid (∀w',Ext w w'->∀c:UInt8,Calls prog 236 #[.int .u8 (c.toNat:Int),.pointer (some ⟨bc,0,none⟩),.pointer (some ⟨bp,0,none⟩),.pointer (some ⟨bz,0,none⟩)] w'
  fun e w''=>e=.returned (.tuple #[.string ⟨(Tw.pat Tw.cItf Tw.pItf 5 c).1.toArray⟩,.bool (Tw.pat Tw.cItf Tw.pItf 5 c).2])∧w'=w''):=
  ZmE fun w' hx c=>by have h1:cs.size=10:=(by rw[Zc hcs];rfl);have h2:ps.size=50:=(by rw[Zc hps];rfl);have:=Zaf cs ps 5 c bc bp bz w' (hA.ext hx) (.inl rfl) QhN QhN;rw[hcs,hps]at this;exact QeN
 have HI:=ZmE hI
 have HD:=ZmE hdig
 have HE:=ZmE hev
 have HT:=ZmE (Tw.drawItf.eq_1 s.data.toList)
 generalize Tw.drawItf s.data.toList=res at*
 have hh:2*h<=s.size:=by omega
 have hh':s.size<=2*h:=by omega
 clear hI hA hdig hcs hps hev
 go_enter func173,ntmps173
 go_wp2
 clear kc
 go_loopw [5,4] (fun i c wr=>∃j:Nat,j<=h∧i=.int .i64 ((2*j:Nat):Int)∧OwnG 5 wr w.heap.size c (([110,110,110,110]++Tw.drawPairs (s.data.toList.take (2*j))).map encB)∧Hid ((Tw.drawPairs (s.data.toList.take (2*j))).length=10*j)∧Ext w wr) (fun i _ _=>s.size-(intOf i).toNat)
 case atStart=>refine⟨0,ZmP _,rfl,.inr ⟨w.heap.size,rfl,ZmK _,by simp,?_⟩,rfl,Xe⟩;intro j u hu;rw[World.cell?_alloc_mark];simp only[ZqA,Zpp,Tw.drawPairs]at hu;simpa[encB]using hu
 case round=>
  obtain⟨j,hj,rfl,hown,HL,hxr⟩:=hrel;by_cases hlt:j<h
  ·have hz2:∀x:Ahead wr,x.at'.cell? ⟨ba,1,none⟩=_:=fun x=>(HI.out.ext (hxr.trans x.ext)).a1;have HQ:=ZmE (fun(x:Ahead wr)=>HP.out x.at' (hxr.trans x.ext));obtain⟨p,hp⟩:∃p,2*j=p:=⟨_,rfl⟩;obtain⟨q,hq⟩:∃q,p+1=q:=⟨_,rfl⟩;have k1:p<s.size:=QhN;have k2:q<s.size:=QhN;have HTT:=ZmE (ZjM s p q (2*(j+1)) hq.symm QhN k1 k2);rw[hp]at hown HL;have HDA:=ZmE (Ze8 j (s.data.toList.take p) [s[p],s[q]] (by rw[Zaj s p QhN];omega));rw[<-HTT.out]at HDA;have HPQ:Hid (p=2*j∧q=2*j+1):=ZmE QhN;have hpq:(p:Int)+1=(q:Int):=QhN;have hp':((2*j:Nat):Int)=(p:Int):=QhN;rw[hp'];clear hp hq hp';have d1:decide (p<s.size)=true:=(by simpa using k1);have la:=HD.out s[p] (Zj s p k1);have lb:=HD.out s[q] (Zj s q k2);have HQ1:=ZmE (fun x=>HQ.out x s[p]);have HQ2:=ZmE (fun(x:Ahead wr) (y:Ahead x.at')=>HP.out y.at' ((hxr.trans x.ext).trans y.ext) s[q]);simp only[Tw.drawPairs,ZnC]at HDA;generalize(Tw.pat Tw.cItf Tw.pItf 5 s[p]).1=pa at*;generalize(Tw.pat Tw.cItf Tw.pItf 5 s[q]).1=pb at*;generalize(Tw.pat Tw.cItf Tw.pItf 5 s[p]).2=oa at*;generalize(Tw.pat Tw.cItf Tw.pItf 5 s[q]).2=ob at*;obtain⟨PA,rfl⟩:∃D:ByteArray,pa=D.data.toList:=⟨⟨pa.toArray⟩,by simp⟩;obtain⟨PB,rfl⟩:∃D:ByteArray,pb=D.data.toList:=⟨⟨pb.toArray⟩,by simp⟩;rw[Zy]at HQ1 HQ2;rw[Zb]at la lb;clear HP HQ;go_wp2;refine Zon (C:=fun w'=>∃x:Ahead wr,w'=x.at') QhO QhO (Ahead.drawn _) ?_;(try dsimp only);(repeat(first|go_big_quiet_step ((go_at_call 236;exact Zn ((HQ1.out _).mono fun _ _ h=>⟨h.1,h.2▸Ext.refl _⟩)))|quiet_step ((go_at_call 236;exact Zn ((HQ1.out _).mono fun _ _ h=>⟨h.1,h.2▸Ext.refl _⟩)))));refine ZoB ?_;intro _ hx0;obtain⟨x0,hx0⟩:=hx0;subst hx0;obtain⟨w3,hx3⟩:=x0;(try dsimp only);have hz3:∀x:Ahead w3,x.at'.cell? ⟨ba,1,none⟩=_:=fun x=>hz2 ⟨x.at',hx3.trans x.ext⟩;go_wp2;refine Zon (C:=fun w'=>∃x:Ahead w3,w'=x.at') QhO QhO (Ahead.drawn _) ?_;(try dsimp only);(repeat(first|go_big_quiet_step ((go_at_call 236;exact Zn ((HQ2.out ⟨w3,hx3⟩ _).mono fun _ _ h=>⟨h.1,h.2▸Ext.refl _⟩)))|quiet_step ((go_at_call 236;exact Zn ((HQ2.out ⟨w3,hx3⟩ _).mono fun _ _ h=>⟨h.1,h.2▸Ext.refl _⟩)))));refine ZoB ?_;intro _ hx0;obtain⟨x0,hx0⟩:=hx0;subst hx0;obtain⟨w4,hx4⟩:=x0;(try dsimp only);have hz4:=(HI.out.ext ((hxr.trans hx3).trans hx4)).a0;replace hown:=hown.ext (hx3.trans hx4);replace hxr:=(hxr.trans hx3).trans hx4;clear hx3 hx4 hz2 hz3 HQ1 HQ2 HD;obtain⟨wo,rfl⟩:∃wo:World,wo=w4:=⟨_,rfl⟩;go_wp2;clear hz4;go_loopw [40,4] (fun i c wq=>∃k:Nat,k<=5∧i=.int .i64 (k:Int)∧OwnG 5 wq w.heap.size c (([110,110,110,110]++Tw.drawPairs (s.data.toList.take p)++Tw.mix (PA.data.toList.take k) (PB.data.toList.take k)).map encB)∧Ext w wq) (fun i _ _=>5-(intOf i).toNat);(case atStart=>exact⟨0,ZmP _,rfl,by simpa[Tw.mix]using hown,hxr⟩);case round=>
    obtain⟨k,hk,rfl,hown,hxr⟩:=hrel;by_cases hlt5:k<5
    ·have ka:k<PA.size:=QhN;have kb:k<PB.size:=QhN;have HM:=ZmE (Zjd PA.data.toList PB.data.toList k (by rw[Zb];exact ka) (by rw[Zb];exact kb));have hmx:(Tw.mix (PA.data.toList.take k) (PB.data.toList.take k)).length<=2*k:=ZnF (Zgh _ _) QhS;have hdl:(Tw.drawPairs (s.data.toList.take p)).length<=10*j:=(by rw[HL.out];omega);generalize hL: [110,110,110,110]++Tw.drawPairs (s.data.toList.take p)++Tw.mix (PA.data.toList.take k) (PB.data.toList.take k)=L at*;have hLl:L.length<=2000000:=(by rw[<-hL];simp only[ZmM,ZmQ,ZnE];omega);obtain⟨v',w5,hrun,hown5,hg5⟩:=Zch (w:=(wr.alloc (.cells #[encB PA[k],encB PB[k]] 5)).drew) 90 5 (.int .u8 0) 1 underlying90 Zap rfl QhP w.heap.size u4 (L.map encB) (hown.ext ((Ext.refl _).alloc _).drew) wr.heap.size 0 2 2 [encB PA[k],encB PB[k]] rfl QhP
      (fun j u hj=>by
       match j with
       |0=>simp only[Znp,Znl]at hj;subst hj;simp[go_sem]
       |1=>simp only[Zn2,Znp,Znl]at hj;subst hj;simp[go_sem]
       |j+2=>simp at hj)
      (fun u hu=>by simp only[Zn8,Zoy,ZpD]at hu;rcases hu with rfl|rfl<;>rfl)
      QhR (by have:=hxr.size;simp;omega)
     have hx5:Ext w w5:=((hxr.alloc (.cells #[encB PA[k],encB PB[k]] 5)).drew).ofGrown hg5 hown.low;have HO5:Hid (OwnG 5 w5 w.heap.size v' (([110,110,110,110]++Tw.drawPairs (s.data.toList.take p)++Tw.mix (PA.data.toList.take (k+1)) (PB.data.toList.take (k+1))).map encB)):=ZmE (by rw[HM.out,<-Znu,hL,Zn1];exact .inl hown5);clear hown5 hg5 hown hL hmx hdl;unfold encB at hrun;go_wp2;go_region_law ((refine Zbn Qh6 _ _ _ Qh6 Qh6 _ _ Qh6 Qh6 _ _ hrun ?_));all_goals go_wp2;go_roundw;(case rel=>exact⟨k+1,by omega,by go_num,HO5.out,hx5⟩);case measure=>exact Q8
    ·obtain rfl:k=5:=QhN;have ta:PA.data.toList.take 5=PA.data.toList:=(by rw[<-la];exact Zx PA);have tb:PB.data.toList.take 5=PB.data.toList:=(by rw[<-lb];exact Zx PB);rw[ta,tb,Znu,<-HDA.out]at hown;have HLL:Hid ((Tw.drawPairs (s.data.toList.take (2*(j+1)))).length=10*(j+1)):=ZmE (by rw[HDA.out,ZmM,HL.out,ZeM _ _ 5 (by rw[Zb];exact la) (by rw[Zb];exact lb)];omega);clear ta tb hlt5 hk;go_wp2;go_roundw;(case rel=>exact⟨j+1,by omega,by rw[show((2*(j+1):Nat):Int)=(p:Int)+2 by have:=HPQ.out;omega],hown,HLL,hxr⟩);case measure=>exact Q8
  ·obtain rfl:j=h:=QhN;obtain⟨p,hp⟩:∃p,2*j=p:=⟨_,rfl⟩;have hta:s.data.toList.take (2*j)=s.data.toList:=(by rw[show 2*j=s.size by omega,Zx]);rw[hta]at hown;have hcv:=Zl hown.sl;rw[hta]at HL;have hLl:([110,110,110,110]++Tw.drawPairs s.data.toList).length<=2000000:=(by simp only[ZmM,ZmQ,ZnE,HL.out];omega);generalize [110,110,110,110]++Tw.drawPairs s.data.toList=L at*;obtain⟨D,rfl⟩:∃D:ByteArray,L=D.data.toList:=⟨⟨L.toArray⟩,by simp⟩;rw[Zy]at hcv;rw[Zb]at hLl;rw[hp];have d1:decide (p<s.size)=false:=Qcm;clear hj hlt hta hp HL;go_wp2;go_ret;exact⟨by rw[HT.out];exact Za2 QhQ,hxr⟩
theorem ZcT:∀(j:Nat) (l:List UInt8) (_:2*j+1<l.length),Tw.evens (l.take (2*(j+1)))=Tw.evens (l.take (2*j))++[l.getD (2*j) 0]
 |0,a::b::l,_=>by simp[Tw.evens]
 |0,[],h=>by simp at h
 |0,[_],h=>by simp at h
 |j+1,[],h=>by simp at h
 |j+1,[_],h=>by simp at h
 |j+1,a::b::l,h=>by simp only[ZmQ]at h;have:=ZcT j l QhN;have e1:(a::b::l).take (2*(j+1+1))=a::b::l.take (2*(j+1)):=QjV;have e2:(a::b::l).take (2*(j+1))=a::b::l.take (2*j):=QfC;have e3:(a::b::l).getD (2*(j+1)) 0=l.getD (2*j) 0:=QfC;rw[e1,e2,e3,Tw.evens,Tw.evens,this,Zny]
theorem ZdP:∀(j:Nat) (l:List UInt8) (_:2*j+1<l.length),Tw.odds (l.take (2*(j+1)))=Tw.odds (l.take (2*j))++[l.getD (2*j+1) 0]
 |0,a::b::l,_=>by simp[Tw.odds]
 |0,[],h=>by simp at h
 |0,[_],h=>by simp at h
 |j+1,[],h=>by simp at h
 |j+1,[_],h=>by simp at h
 |j+1,a::b::l,h=>by simp only[ZmQ]at h;have:=ZdP j l QhN;have e1:(a::b::l).take (2*(j+1+1))=a::b::l.take (2*(j+1)):=QjV;have e2:(a::b::l).take (2*(j+1))=a::b::l.take (2*j):=QfC;have e3:(a::b::l).getD (2*(j+1)+1) 0=l.getD (2*j+1) 0:=(by rw[show 2*(j+1)+1=2*j+1+1+1 by omega];rfl);rw[e1,e2,e3,Tw.odds,Tw.odds,this,Zny]
theorem ZdF:∀l:List UInt8,(Tw.evens l).length<=l.length
 | []=>by simp[Tw.evens]
 | [_]=>by simp[Tw.evens]
 |_::_::l=>by have:=ZdF l;simp only[Tw.evens,ZmQ];omega
theorem ZeO:∀l:List UInt8,(Tw.odds l).length<=l.length
 | []=>by simp[Tw.odds]
 | [_]=>by simp[Tw.odds]
 |_::_::l=>by have:=ZeO l;simp only[Tw.odds,ZmQ];omega
theorem ZkF (l:List UInt8):Lib.hasPrefix l [110,110,110,110]=decide (l.take 4=[110,110,110,110]):=by
 unfold Lib.hasPrefix;rw[Zn7,List.isPrefixOf_iff_prefix,Zna];constructor;·rintro⟨t,rfl⟩;simp
 ·intro h;exact⟨l.drop 4,by rw[<-h,ZnX]⟩
theorem ZbW {α:Type} (f g:α->UInt8):∀l:List α,(l.flatMap fun k=>[f k,g k]).length=2*l.length
 | []=>rfl
 |_::l=>by rw[Zoo,ZmM,ZbW f g l];simp only[ZmQ,ZnE];omega
def strLen:Value->Nat
 | .string s=>s.size
 |_=>0
theorem ZfA (cs ps:ByteArray) (bc bp bz:Nat) (e:ByteArray) (n:Nat) (w:World) (hA:AlphAt w bc bp bz cs ps 5) (hcs:cs.data.toList=Tw.cItf) (hps:ps.data.toList=Tw.pItf) (hn:e.size=7+10*n) (hn1:1<=n) (hn2:n<=10000):
 Calls prog 174 #[alphV 5 bc bp bz,.string e] w
  fun en w'=>en=.returned (.tuple #[strV (Tw.readItf e.data.toList).1,.int .i64 (Tw.readItf e.data.toList).2])∧Ext w w':=by
 have HP:Hid (∀w',Ext w w'->∀p:ByteArray,Calls prog 237 #[.string p,.pointer (some ⟨bc,0,none⟩),.pointer (some ⟨bp,0,none⟩),.pointer (some ⟨bz,0,none⟩)] w'
  fun e w''=>e=.returned (.tuple #[.int .u8 ((Tw.chr Tw.cItf Tw.pItf 5 p.data.toList).1.toNat:Int),.bool (Tw.chr Tw.cItf Tw.pItf 5 p.data.toList).2])∧w'=w''):=
  ZmE fun w' hx p=>by have h1:cs.size=10:=(by rw[Zc hcs];rfl);have h2:ps.size=50:=(by rw[Zc hps];rfl);have:=ZcB cs ps 5 p bc bp bz w' (hA.ext hx) (.inl rfl) QhN QhN;rw[hcs,hps]at this;exact QeN
 have HT:=ZmE (Tw.readItf.eq_1 e.data.toList)
 have HF:=ZmE (Tryz.strings_HasPrefix e ⟨#[110,110,110,110]⟩)
 change Hid (∀w,Calls prog 177 #[.string e,.string ⟨#[110,110,110,110]⟩] w fun en w'=>en=.returned (.bool (Lib.hasPrefix e.data.toList [110,110,110,110]))∧w'=w)at HF
 rw[ZkF]at HF
 rw[Zb,show(e.size-7)/10=n by omega]at HT
 generalize Tw.readItf e.data.toList=res at*
 clear hA hcs hps
 have hs:e.size<=1000000:=by omega
 have HN:=ZmE hn
 clear hn
 unfold alphV
 by_cases h4:e.data.toList.take 4=[110,110,110,110]
 ·rw[ZmF (fun h=>h h4)]at HT;rw[ZmR h4]at HF;have HN0:=ZmE (show 17<=e.size by have:=HN.out;omega);have hs17:=HN0.out;have hn3:((e.size:Int)-3).toNat=e.size-3:=QhN;clear h4;go_enter func174,ntmps174;go_wp2_with fail;refine(HF.out _).mono ?_;rintro en w1 ⟨rfl,rfl⟩;go_wp2;go_quiet (fail);go_wp2;obtain⟨w0,hw0⟩:∃w0,(w.alloc (.cells #[.int .i64 5,.func (.func 236) #[] #[.pointer (some ⟨bc,0,none⟩),.pointer (some ⟨bp,0,none⟩),.pointer (some ⟨bz,0,none⟩)],.func (.func 237) #[] #[.pointer (some ⟨bc,0,none⟩),.pointer (some ⟨bp,0,none⟩),.pointer (some ⟨bz,0,none⟩)]] 102)).drewN nq=w0:=⟨_,rfl⟩;have F0:Hid (w0.cell? ⟨w.heap.size,0,none⟩=some (.int .i64 5)):=ZmE (by rw[<-hw0];simp[go_sem]);have F2:Hid (w0.cell? ⟨w.heap.size,2,none⟩=some (.func (.func 237) #[] #[.pointer (some ⟨bc,0,none⟩),.pointer (some ⟨bp,0,none⟩),.pointer (some ⟨bz,0,none⟩)])):=ZmE (by rw[<-hw0];simp[go_sem]);have hx0:Ext w w0:=(by rw[<-hw0];exact((Ext.refl _).alloc _).drewN _);have hl0:w.heap.size<w0.heap.size:=(by rw[<-hw0];simp);rw[hw0];obtain⟨ST,hST⟩:∃ST,e.extract (e.size-3) e.size=ST:=⟨_,rfl⟩;have HST:Hid (e.data.toList.drop (e.size-3)=ST.data.toList):=ZmE (by rw[<-hST,Z2]);rw[hST];rw[HST.out]at HT;clear hST hw0 HF hn3;go_loopw [6,8] (fun c d wr=>∃(i:Nat) (P:ByteArray),i<=n∧c=.string P∧Hid (P.data.toList=(e.data.toList.drop (4+10*i)).take (10*(n-i)))∧Own 5 wr w0.heap.size d (((List.range i).flatMap fun k=>[(Tw.digA e.data.toList k).1,(Tw.digB e.data.toList k).1]).map encB)∧Hid (∀m,m<i->Tw.pairOk e.data.toList m=true)∧Ext w0 wr) (fun c _ _=>strLen c);(case atStart=>refine⟨0,_,ZmP _,rfl,ZmE ?_,Own.nil _ _ _,ZmE (fun m hm=>absurd hm (Zo6 _)),Ext.refl _⟩;rw[Zs];congr 1;exact Qe8);case round=>obtain⟨i,P,hi,rfl,HPP,hown,HB,hxr⟩:=hrel;have hps:P.size=10*(n-i):=(by rw[Zc HPP.out,ZmY,Znr,Zb];exact Qe8);have HPS:=ZmE hps;by_cases hlt:i<n;(·have hp10:10<=P.size:=QhN;have hpe:P.toList.isEmpty=false:=(by rw[Znk,Zpk];exact QfK);have hpz:¬P.toList=[]:=(by rw[Znk];exact QfK);have hc0:wr.cell? ⟨w.heap.size,0,none⟩=some (.int .i64 5):=(by rw[hxr.cell (p:=⟨w.heap.size,0,none⟩) hl0];exact F0.out);have hpb:P.size<=1000000:=QhN;clear hps;obtain⟨wo,rfl⟩:∃wo:World,wo=wr:=⟨_,rfl⟩;go_wp2;clear hc0;go_loopw [38,9,10] (fun j b s wq=>∃k:Nat,k<=5∧j=.int .i64 (k:Int)∧Own 5 wq wo.heap.size b ((Tw.evens (P.data.toList.take (2*k))).map encB)∧Own 5 wq wo.heap.size s ((Tw.odds (P.data.toList.take (2*k))).map encB)∧Apart b s∧Ext wo wq) (fun j _ _ _=>5-(intOf j).toNat);(case atStart=>exact QeQ);case round=>obtain⟨k,hk,rfl,hob,hos,hap,hxq⟩:=hrel;by_cases hlt5:k<5;(·obtain⟨p,hp⟩:∃p,2*k=p:=⟨_,rfl⟩;obtain⟨q,hq⟩:∃q,p+1=q:=⟨_,rfl⟩;have k1:p<P.size:=QhN;have k2:q<P.size:=QhN;have hE:=ZcT k P.data.toList Qic;have hO:=ZdP k P.data.toList Qic;rw[hp,hq,Zcq P q k2]at hO;rw[hp,Zcq P p k1]at hE;rw[hp]at hob hos;have le:=ZdF (P.data.toList.take p);have lo:=ZeO (P.data.toList.take p);rw[Zaj P p QhN]at le lo;have HE:=ZmE hE;have HO:=ZmE hO;have hmp:2*(k:Int)=(p:Int):=QhN;have hpq:(p:Int)+1=(q:Int):=QhN;have hle:p<=10:=QhN;clear hE hO hp hq;generalize Tw.evens (P.data.toList.take p)=le1 at*;generalize Tw.odds (P.data.toList.take p)=lo1 at*;go_wp2_with (at_builtin;refine Zbw rfl _ _ rfl wo.heap.size _ le1 rfl (hob.alloc _) _ P[p] rfl ?c1 ?c2 ?c3 ?_);(case c1=>simp[go_sem,encB]);(case c2=>omega);(case c3=>have:=hxq.size;exact Qcm);intro v1 w1 hob1 hg1 hat1;have hos1:=(hos.alloc _).beside hg1 hap;have hap1:Apart v1 _:=Apart.grow hap hos _ QhQ hat1;have hx1:=(hxq.alloc _).ofGrown hg1 hob.low;clear hob hos hap hxq hg1 hat1;go_wp2_with (at_builtin;refine Zbw rfl _ _ rfl wo.heap.size _ lo1 rfl (hos1.alloc _) _ P[q] rfl ?d1 ?d2 ?d3 ?_);(case d1=>simp[go_sem,encB]);(case d2=>omega);(case d3=>have:=hx1.size;exact Qcm);intro v2 w2 hos2 hg2 hat2;have hob2:=(hob1.alloc _).beside hg2 hap1.symm;have hap2:Apart v2 _:=Apart.grow hap1.symm hob1 _ QhQ hat2;have hx2:=(hx1.alloc _).ofGrown hg2 hos1.low;clear hob1 hos1 hap1 hx1 hg2 hat2;go_wp2;go_roundw;(case rel=>exact⟨k+1,by omega,by go_num,by rw[HE.out,Zn1];exact hob2,by rw[HO.out,Zn1];exact hos2,hap2.symm,hx2⟩);case measure=>exact Q8);·obtain rfl:k=5:=QhN;have hpa:P.data.toList.take (2*5)=Tw.pairAt e.data.toList i:=(by rw[HPP.out,Zp8,show min (2*5) (10*(n-i))=10 by omega];rfl);rw[hpa]at hob hos;have hcv1:=Zl hob.sl;have hcv2:=Zl hos.sl;have hc2:wr.cell? ⟨w.heap.size,2,none⟩=some (.func (.func 237) #[] #[.pointer (some ⟨bc,0,none⟩),.pointer (some ⟨bp,0,none⟩),.pointer (some ⟨bz,0,none⟩)]):=(by rw[(hxr.trans hxq).cell (p:=⟨w.heap.size,2,none⟩) hl0];exact F2.out);have HC1:=ZmE (HP.out wr ((hx0.trans hxr).trans hxq) ⟨(Tw.evens (Tw.pairAt e.data.toList i)).toArray⟩);have HC2:=ZmE (HP.out wr ((hx0.trans hxr).trans hxq) ⟨(Tw.odds (Tw.pairAt e.data.toList i)).toArray⟩);have HDA:Hid (Tw.chr Tw.cItf Tw.pItf 5 (Tw.evens (Tw.pairAt e.data.toList i))=Tw.digA e.data.toList i):=ZmE rfl;have HDB:Hid (Tw.chr Tw.cItf Tw.pItf 5 (Tw.odds (Tw.pairAt e.data.toList i))=Tw.digB e.data.toList i):=ZmE rfl;simp only[HDA.out]at HC1;simp only[HDB.out]at HC2;have HOK:=ZmE (Tw.pairOk.eq_1 e.data.toList i);replace hown:=hown.ext hxq;have hfl:(List.range (i+1)).flatMap (fun k=>[(Tw.digA e.data.toList k).1,(Tw.digB e.data.toList k).1])=(List.range i).flatMap (fun k=>[(Tw.digA e.data.toList k).1,(Tw.digB e.data.toList k).1])++[(Tw.digA e.data.toList i).1,(Tw.digB e.data.toList i).1]:=(by rw[Zqi,ZoF];simp);have HFL:=ZmE hfl;have hgl:((List.range i).flatMap (fun k=>[(Tw.digA e.data.toList k).1,(Tw.digB e.data.toList k).1])).length<=2*i:=(by rw[ZbW,Zoj];omega);clear hfl hpa HDA HDB;generalize(List.range i).flatMap (fun k=>[(Tw.digA e.data.toList k).1,(Tw.digB e.data.toList k).1])=got at*;generalize(⟨(Tw.evens (Tw.pairAt e.data.toList i)).toArray⟩:ByteArray)=SA at*;generalize(⟨(Tw.odds (Tw.pairAt e.data.toList i)).toArray⟩:ByteArray)=SB at*;generalize Tw.digA e.data.toList i=da at*;generalize Tw.digB e.data.toList i=db at*;obtain⟨ca,oa⟩:=da;obtain⟨cb,ob⟩:=db;clear hob hos hap;replace hxq:=hxr.trans hxq;cases hoo:(oa&&ob);(·have hno:¬((List.range n).all (Tw.pairOk e.data.toList)=true):=(by intro h;rw[Znd]at h;have:=h i (by simpa using hlt);rw[HOK.out,hoo]at this;exact QeY);rw[ZpE]at hno;rw[ZmH hno]at HT;clear hno;cases oa;(·exact QcP);·obtain rfl:ob=false:=(by simpa using hoo);exact QcP);·rw[Zno]at hoo;obtain⟨rfl,rfl⟩:=hoo;have hc0:wr.cell? ⟨w.heap.size,0,none⟩=some (.int .i64 5):=(by rw[hxq.cell (p:=⟨w.heap.size,0,none⟩) hl0];exact F0.out);have HBN:Hid (∀m,m<i+1->Tw.pairOk e.data.toList m=true):=ZmE (fun m hm=>by rcases ZoP (ZoY hm)with h|rfl;(·exact HB.out m h);·rw[HOK.out];rfl);have HPN:Hid ((P.extract 10 P.size).data.toList=(e.data.toList.drop (4+10*(i+1))).take (10*(n-(i+1)))):=ZmE (by rw[Z2,HPP.out,ZpN,Zoi,show 10*(n-i)-10=10*(n-(i+1)) by omega,show 4+10*i+10=4+10*(i+1) by omega]);go_wp2_with fail;refine HC1.out.mono ?_;rintro en w5 ⟨rfl,rfl⟩;go_wp2_with fail;refine HC2.out.mono ?_;rintro en w5 ⟨rfl,rfl⟩;go_wp2_with (at_builtin;refine Zgq rfl _ _ rfl w0.heap.size _ got rfl (hown.alloc _) _ ca cb rfl ?c1 ?c2 ?c3 ?c4 ?_);(case c1=>simp[go_sem,encB]);(case c2=>simp[go_sem,encB]);(case c3=>omega);(case c4=>have:=hxq.size;exact Qcm);intro v1 w1 hown1 hg1 hat1;have hx1:=(hxq.alloc _).ofGrown hg1 hown.low;have hc3:w1.cell? ⟨w.heap.size,0,none⟩=some (.int .i64 5):=(by rw[hx1.cell (p:=⟨w.heap.size,0,none⟩) hl0];exact F0.out);clear hc0 hc2 hcv1 hcv2 hown hg1 hat1;go_wp2;go_roundw;(case rel=>exact⟨i+1,_,by omega,rfl,HPN,by rw[HFL.out,Zn1];exact hown1,HBN,hx1⟩);case measure=>simp[strLen];omega);·obtain rfl:i=n:=QhN;have hpz:P.size=0:=QhN;have hpe:P=⟨#[]⟩:=(by apply Zh;exact Znq (by rw[Zb];exact hpz));subst hpe;have hal:¬((List.range i).all (Tw.pairOk e.data.toList)=false):=(by rw[Zpj,Znd];intro m hm;exact HB.out m Qid);rw[ZmF hal]at HT;have hcv:=Zl hown.sl;clear hal hpz hps hi hlt;by_cases hst:ST.data.toList=[119,110,110];(·rw[ZmF (fun h=>h hst)]at HT;have hs1:ST.toList=[119,110,110]:=(by rw[Znk];exact hst);exact Qfy);·rw[ZmH hst]at HT;have hs1:(ST.toList== [119,110,110])=false:=(by rw[Znk];simpa using hst);exact Qfy
 ·rw[ZmH h4]at HT;rw[ZmS h4]at HF;go_enter func174,ntmps174;go_wp2_with fail;refine(HF.out _).mono ?_;rintro en w1 ⟨rfl,rfl⟩;go_wp2;go_ret2;exact⟨by rw[HT.out];rfl,Xe⟩
end
end Go.Proofs.YtbngggoccndefaaGreatDoor
