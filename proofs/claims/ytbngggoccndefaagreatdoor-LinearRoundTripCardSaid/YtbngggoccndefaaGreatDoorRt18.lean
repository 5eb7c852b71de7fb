/-
  Laid.
-/
import Derived.Test.YtbngggoccndefaaGreatDoorRt17
set_option maxHeartbeats 8000000
set_option maxRecDepth 100000
set_option linter.all false
namespace Go.Proofs.YtbngggoccndefaaGreatDoor
open Go.Proofs.Tryz
section
namespace Cd
theorem ver_digits (k:Nat) (l:List UInt8) (d:UInt8) (_h1:1<=k) (_h8:k<=8) (h7:k≠7) (h6:k≠6) (hs:AllDig (l++[d])) (hl:(l++[d]).length<=4096):ver k (l++[d])=0↔fits k (l++[d]).length=true∧cmp k l=[d]:=by
 have hz:size k=1:=D0 h6;have hcut:(l++[d]).length-size k=l.length:=by rw[hz,O0,YP];omega
 obtain⟨hda,hdd⟩:=allDig_app hs;have hd0:=hdd d (Y2.2 rfl);have ddig:∀c:UInt8,48<=c.toNat∧c.toNat<=57->isDig (c.toNat:Int)=true:=fun c hc=>by simp only[isDig,N1,V1];omega
 rw[ver_zero_iff,hcut,P6,B5];constructor;·intro h;exact⟨h.2.1,h.2.2.2.2⟩
 ·intro h;refine⟨hl,h.1,fun c hc=> ?_,fun c hc=> ?_,h.2⟩;(·rw[datB,D0 h7];exact ddig c (hda c hc));·rw[Y2]at hc;subst hc;rw[chkB,D0 h7];split;(·rw[ddig c hd0];rfl);·exact ddig c hd0
end Cd
namespace Ea
theorem allDig {l:List UInt8} (h:digs l=true):Cd.AllDig l:=digs_iff.1 h
theorem split_last {l:List UInt8} (h:0<l.length):∃d,l=l.take (l.length-1)++[d]:=by
 refine⟨l[l.length-1],?_⟩;conv=>lhs;rw[<-C6 (l.length-1) l]
 congr 1;rw[G4 C0,J5 C0]
def good (l:List UInt8):Prop:=l=l.take (l.length-1)++[chk (l.take (l.length-1))]
instance (l:List UInt8):Decidable (good l):=inferInstanceAs (Decidable (l=_))
theorem ver_good {l:List UInt8} (h:digs l=true) (h2:2<=l.length) (h3:l.length<=4096):Cd.verI 1 l=0↔good l:=by
 obtain⟨d,hd⟩:=split_last (l:=l) C0;have hlen:(l.take (l.length-1)).length=l.length-1:=by rw[L1];omega
 rw[show(1:Int)=((1:Nat):Int)from rfl,Cd.verI_nat 1 l C0 C0];unfold good;generalize l.take (l.length-1)=r at*;subst hd;rw[Cd.ver_digits 1 r d C0 C0 C0 C0 (allDig h) h3];have hf:Cd.fits 1 (r++[d]).length=true:=by unfold Cd.fits;simp[Cd.size];simp at h2;omega
 constructor;·intro h4;have h5:Cd.cmp 1 r=[d]:=(by first|exact h4.2|exact h4.2.1|exact h4.2.2);have h6:Cd.cmp 1 r=[chk r]:=rfl;rw[<-h5,h6]
 ·intro h4;have h5: [d]=[chk r]:=KM h4;first|exact⟨hf,h5.symm⟩|(refine⟨hf,?_⟩;rw[h5];rfl)
theorem exp7_len {l:List UInt8} (h:l.length=7):(exp7 l).length=11:=by unfold exp7;(repeat' split)<;>simp<;>omega
theorem exp7_digs {l:List UInt8} (h:digs l=true):digs (exp7 l)=true:=by
 have hz4:digs [48,48,48,48]=true:=by decide
 have hz5:digs [48,48,48,48,48]=true:=by decide
 unfold exp7;(repeat' split)<;>simp only[digs_app];·exact⟨⟨⟨digs_take h _,digs_take (digs_drop h _) _⟩,hz4⟩,digs_take (digs_drop h _) _⟩
 ·exact qQ
 ·exact qQ
 ·exact⟨⟨digs_take h _,hz4⟩,digs_take (digs_drop h _) _⟩
theorem exp8_len {l:List UInt8} (h:l.length=8):(exp8 l).length=12:=by unfold exp8;rw[O0,exp7_len O5,L2];omega
theorem exp8_digs {l:List UInt8} (h:digs l=true):digs (exp8 l)=true:=by unfold exp8;rw[digs_app];exact⟨exp7_digs (digs_take h _),digs_drop h _⟩
theorem exp8_take {l:List UInt8} (h:l.length=8):(exp8 l).take 11=exp7 (l.take 7):=by unfold exp8;exact take_app _ _ _ (exp7_len O5).symm
theorem good_of {k:Int} {l:List UInt8} (h1:size k≠0) (h3:l.length=size k):l=l.take (size k-1)++[chkOf k (l.take (size k-1))]↔good (if k=4 then exp8 l else l):=by
 by_cases h4:k=4;·subst h4;have e:size 4=8:=rfl;rw[e]at h3⊢;rw[G0 rfl];unfold good chkOf;rw[G0 rfl,exp8_len h3,exp8_take h3];obtain⟨d,hd⟩:=split_last (l:=l) C0;rw[h3]at hd;have hdr:l.drop 7=[d]:=(by rw[hd];exact drop_app _ _ _ O5);constructor;(·intro h;have h5: [d]=[chk (exp7 (l.take 7))]:=KM (hd.symm.trans h);show exp8 l=_;unfold exp8;rw[hdr,h5]);·intro h;have h5: [d]=[chk (exp7 (l.take 7))]:=(by unfold exp8 at h;rw[hdr]at h;exact KM h);show l=_;rw[<-h5];exact hd
 ·rw[D0 h4];unfold good chkOf;rw[D0 h4,h3]
theorem len8 {l:List UInt8} (h:l.length=8):∃a0 a1 a2 a3 a4 a5 a6 a7,l=[a0,a1,a2,a3,a4,a5,a6,a7]:=by
 match l,h with
 | [a0,a1,a2,a3,a4,a5,a6,a7],_=>exact⟨_,_,_,_,_,_,_,_,rfl⟩
theorem decF_inv {s:List Bool}:∀(l:List (Nat×Nat)) (e:Int),e≠0->(∀p∈l,fits s p.1 p.2=true->(rdShape s p.1 p.2).2=0->True)->(decF s e l).2=0->∃p∈l,fits s p.1 p.2=true∧(rdShape s p.1 p.2).2=0∧decF s e l=rdShape s p.1 p.2:=by
 intro l
 induction l with
 |nil=>intro e he _ h;exact absurd h he
 |cons p l ih=>intro e he hp h;obtain⟨n,a⟩:=p;rw[decF]at h⊢;by_cases h1:fits s n a=false;(·rw[G0 h1]at h⊢;obtain⟨q,q1,q2⟩:=ih e he (fun _ _ _ _=>trivial) h;exact⟨q,C1 _ q1,q2⟩);·rw[D0 h1]at h⊢;by_cases h2:(rdShape s n a).2=0;(·rw[G0 h2];exact⟨(n,a),B1 ..,by simpa using h1,h2,rfl⟩);·rw[D0 h2]at h⊢;obtain⟨q,q1,q2⟩:=ih _ (by split<;>assumption) (fun _ _ _ _=>trivial) h;exact⟨q,C1 _ q1,q2⟩
def trim (s:List Bool):List Bool:=(s.drop (ldg s)).take (s.length-trl s-ldg s)
theorem dec_ok {s:List Bool} (h:(dec s).2=0):dec s=decF (trim s) 7 shapes:=by
 unfold dec at h⊢;split;·rename_i h1;exact XB
 rename_i h1;rw[D0 h1]at h;split;·rename_i h2;exact ZZ
 rename_i h2;rw[D0 h2]at h;split;·rename_i h3;exact UR
 rfl
theorem rdAdd_ok {n:Nat} {s:List Bool} (hn:n=2∨n=5) (h:(rdAdd n s).2=0):(rdAdd n s).1.length=n:=by
 have key:∀(gap m:Nat) (s:List Bool) (l:List UInt8) (u:List Nat),rcg true 0 gap m s=some (l,u)->l.length=m:=by
  intro gap m
  induction m with
  |zero=>intro s l u h;cases h;rfl
  |succ m ih=>
   intro s l u h
   rw[rcg]at h
   cases h1:look true 0 (s.take 7)with
   |none=>rw[h1]at h;cases h
   |some p=>
    rw[h1]at h
    dsimp only at h
    cases h2:rcg true 0 gap m (s.drop (7+gap))with
    |none=>rw[h2]at h;cases h
    |some q=>rw[h2]at h;cases h;simp[ih _ _ _ h2]
 unfold rdAdd at h⊢
 split
 ·rename_i h1;exact XB
 rename_i h1
 rw[D0 h1]at h
 split
 ·rename_i h2;exact ZZ
 rename_i h2
 rw[D0 h2]at h
 cases h3:rcg true 0 2 n (s.drop 4)with
 |none=>rw[h3]at h;cases h
 |some p=>obtain⟨l,u⟩:=p;rw[h3]at h;dsimp only at h⊢;split;(·rename_i h4;rw[G0 h4]at h;cases h);·exact key _ _ _ _ _ h3
end Ea
end
section
open Go.RowKit
theorem KN (k:Int) (w:World):Calls prog 47 #[.int .i64 k] w fun e w'=>e=.returned (.int .i64 (Ea.size k:Int))∧w=w':=by
 have h:k=1∨k=2∨k=3∨k=4∨(k≠1∧k≠2∧k≠3∧k≠4):=by omega
 rcases h with rfl|rfl|rfl|rfl|⟨h1,h2,h3,h4⟩;·exact US
 ·exact US
 ·exact US
 ·exact US
 ·have e:Ea.size k=0:=(by unfold Ea.size;rw[D0 h1,D0 h2,D0 h3,D0 h4]);have b1:(k==1)=false:=V0.2 h1;have b2:(k==2)=false:=V0.2 h2;have b3:(k==3)=false:=V0.2 h3;have b4:(k==4)=false:=V0.2 h4;rw[e];clear h1 h2 h3 h4 e;exact US
theorem dT (k:Int) (w:World):Calls prog 108 #[.int .i64 k] w fun e w'=>e=.returned (.tuple #[.int .i64 (Ea.lq k:Int),.int .i64 (Ea.rq k:Int)])∧w=w':=by
 have h:k=1∨k=2∨k=3∨(k≠1∧k≠2∧k≠3):=by omega
 rcases h with rfl|rfl|rfl|⟨h1,h2,h3⟩;·exact PJ
 ·exact PJ
 ·exact PJ
 ·have e:Ea.lq k=9∧Ea.rq k=7:=(by unfold Ea.lq Ea.rq;rw[D0 h1,D0 h2,D0 h3];exact Q3);have b1:(k==1)=false:=V0.2 h1;have b2:(k==2)=false:=V0.2 h2;have b3:(k==3)=false:=V0.2 h3;rw[e.1,e.2];clear h1 h2 h3 e;exact PJ
theorem PK (n:Nat) (h:n=0∨n=2∨n=5) (w:World):Calls prog 211 #[.int .i64 (n:Int)] w fun e w'=>e=.returned (.int .i64 (Ea.wAdd n:Int))∧w=w':=by
 rcases h with rfl|rfl|rfl;·exact KO
 ·exact KO
 ·exact KO
theorem qR (s:ByteArray) (h:0<s.size) (w:World):Calls prog 49 #[.string s] w fun e w'=>e=.returned (.bool (s[0]==48 || s[0]==49))∧w=w':=by
 obtain⟨c,hc⟩:∃c,s[0]=c:=⟨_,rfl⟩;rw[hc];have hlt:(0:Int)<(s.size:Int):=by omega
 have e48:∀d:UInt8,(c==d)=((c.toNat:Int)==(d.toNat:Int)):=fun d=>by rw[U4,C2,C2];exact⟨fun e=>by rw[e],fun e=>O7.1 C0⟩
 rw[e48,e48];by_cases h0:c.toNat=48;·have b0:((c.toNat:Int)==48)=true:=(by rw[h0];rfl);have b0':(c.toNat==48)=true:=(by rw[h0];rfl);have hres:(((c.toNat:Int)==((48:UInt8).toNat:Int)) || ((c.toNat:Int)==((49:UInt8).toNat:Int)))=true:=(by rw[h0];rfl);rw[hres];clear e48 hres h0;exact KP
 ·have b0:((c.toNat:Int)==48)=false:=V0.2 C0;by_cases h1:c.toNat=49;(·have b1:((c.toNat:Int)==49)=true:=VX;have hres:(((c.toNat:Int)==((48:UInt8).toNat:Int)) || ((c.toNat:Int)==((49:UInt8).toNat:Int)))=true:=VX;rw[hres];clear e48 hres h0 h1;exact KP);·have b1:((c.toNat:Int)==49)=false:=V0.2 C0;have hres:(((c.toNat:Int)==((48:UInt8).toNat:Int)) || ((c.toNat:Int)==((49:UInt8).toNat:Int)))=false:=(by rw[KQ];exact⟨b0,b1⟩);rw[hres];clear e48 hres h0 h1;exact KP
theorem KR (s:ByteArray) (hs:s.size<=9223372036854775807) (w:World):
 Calls prog 48 #[.string s] w fun e w'=>e=.returned (.bool (Ea.digs s.data.toList))∧w=w':=by
 obtain⟨res,hres⟩:∃res,Ea.digs s.data.toList=res:=⟨_,rfl⟩
 rw[hres]
 have HRES:=B0 hres
 clear hres
 go_enter func48,ntmps48
 go_wp2
 go_loop [6] (fun i=>∃k:Nat,k<=s.size∧i=.int .i64 (k:Int)∧Hid ((s.data.toList.take k).all (fun c=>Cd.isDig c.toNat)=true)) (fun i=>s.size-(intOf i).toNat)
 case atStart=>exact WC
 case round=>obtain⟨k,hk,rfl,hal⟩:=hrel;by_cases hlt:k<s.size;(·have HA:=B0 (MD s (fun c=>Cd.isDig c.toNat) k hlt);have HN:=B0 (ME s (fun c=>Cd.isDig c.toNat) k hlt);have h3:s[k].toNat<48∨(48<=s[k].toNat∧57<s[k].toNat)∨(48<=s[k].toNat∧s[k].toNat<=57):=C0;rcases h3 with h3|⟨h3,h4⟩|⟨h3,h4⟩;(·have HF:Hid (res=false):=B0 qS;have b1:(s[k].toNat:Int)<48:=C0;clear h3 HA HN;exact KS);(·have HF:Hid (res=false):=B0 qS;have b1:¬(s[k].toNat:Int)<48:=C0;have b2:(57:Int)<(s[k].toNat:Int):=C0;clear h3 h4 HA HN;exact KS);·have HO:Hid ((s.data.toList.take (k+1)).all (fun c=>Cd.isDig c.toNat)=true):=B0 (by rw[HA.out,hal.out];unfold Cd.isDig;simp;omega);have b1:¬(s[k].toNat:Int)<48:=C0;have b2:¬(57:Int)<(s[k].toNat:Int):=C0;clear h3 h4 HA HN;exact KT);·obtain rfl:k=s.size:=C0;have HF:Hid (res=true):=B0 (by rw[<-HRES.out];have:=hal.out;rw[ZI]at this;exact this);clear hk hlt hal;exact KS
theorem bl1 (a b:UInt8):Op.bytesLess [a] [b]=decide (a<b):=by simp[Op.bytesLess]
theorem dU {a:ByteArray} {l:List UInt8} (h:a.data.toList=l):Ending.returned (.string a)=.returned (.string (Ea.bS l)):=by rw[<-h,Ea.bS_of]
theorem qT (s:ByteArray) (h8:s.size=8) (w:World):
 Calls prog 51 #[.string s] w fun e w'=>e=.returned (.string (Ea.bS (Ea.exp8 s.data.toList)))∧Ext w w':=by
 obtain⟨res,hres⟩:∃res,Ea.exp8 s.data.toList=res:=⟨_,rfl⟩
 rw[hres]
 obtain⟨a0,a1,a2,a3,a4,a5,a6,a7,hl⟩:=Ea.len8 (l:=s.data.toList) (by rw[Za];exact h8)
 rw[hl]at hres
 have HR:=B0 hres
 have HL:=B0 hl
 clear hres hl
 go_enter func51,ntmps51
 go_wp2
 go_quiet (fail)
 obtain⟨N,hN⟩:∃N,s.extract 0 1=N:=⟨_,rfl⟩
 obtain⟨D,hD⟩:∃D,s.extract 1 7=D:=⟨_,rfl⟩
 obtain⟨C,hC⟩:∃C,s.extract 7 8=C:=⟨_,rfl⟩
 rw[hN,hD,hC]
 have HN:Hid (N.data.toList=[a0]):=B0 (by rw[<-hN,Z0,HL.out];rfl)
 have HD:Hid (D.data.toList=[a1,a2,a3,a4,a5,a6]):=B0 (by rw[<-hD,Z0,HL.out];rfl)
 have HC:Hid (C.data.toList=[a7]):=B0 (by rw[<-hC,Z0,HL.out];rfl)
 have hDs:D.size=6:=by rw[Zc HD.out];rfl
 have hNs:N.size=1:=by rw[Zc HN.out];rfl
 have hCs:C.size=1:=by rw[Zc HC.out];rfl
 clear hN hD hC
 have HQ:Hid ((D.extract 5 6).toList=[a6]):=B0 (by rw[G2,Z0,HD.out];rfl)
 have HF:Hid (∀(x:ByteArray),x.data.toList=res->Ending.returned (.string x)=.returned (.string (Ea.bS res))):=B0 (fun x hx=>dU hx)
 have h:a6.toNat<=50∨a6.toNat=51∨a6.toNat=52∨52<a6.toNat:=by omega
 have HE:Hid ((D.extract 5 6).data.toList=[a6]):=B0 (by rw[Z0,HD.out];rfl)
 rcases h with h|h|h|h
 ·have q0:(Op.bytesLess (D.extract 5 6).toList [50] || (D.extract 5 6).toList== [50])=true:=(by rw[HQ.out,bl1,F8,V1,C2,UInt8.lt_iff_toNat_lt];have:(50:UInt8).toNat=50:=rfl;by_cases e:a6.toNat=50;(·exact .inr (by rw[show a6=50 from O7.1 e]));·exact .inl C0);have c1:a6<=50:=(by rw[KU];exact h);have HG:Hid ((N++D.extract 0 2++D.extract 5 6++⟨#[48,48,48,48]⟩++D.extract 2 5++C).data.toList=res):=B0 (by rw[<-HR.out];simp only[X3,C4,HN.out,HC.out,HE.out,Z0,HD.out];unfold Ea.exp8 Ea.exp7;simp[c1]);exact KV
 ·obtain rfl:a6=51:=O7.1 h;have q0:(Op.bytesLess (D.extract 5 6).toList [50] || (D.extract 5 6).toList== [50])=false:=(by rw[HQ.out,bl1];rfl);have q1:((D.extract 5 6).toList== [51])=true:=(by rw[HQ.out];rfl);have HG:Hid ((N++D.extract 0 3++⟨#[48,48,48,48,48]⟩++D.extract 3 5++C).data.toList=res):=B0 qU;exact KV
 ·obtain rfl:a6=52:=O7.1 h;have q0:(Op.bytesLess (D.extract 5 6).toList [50] || (D.extract 5 6).toList== [50])=false:=(by rw[HQ.out,bl1];rfl);have q1:((D.extract 5 6).toList== [51])=false:=(by rw[HQ.out];rfl);have q2:((D.extract 5 6).toList== [52])=true:=(by rw[HQ.out];rfl);have HG:Hid ((N++D.extract 0 4++⟨#[48,48,48,48,48]⟩++D.extract 4 5++C).data.toList=res):=B0 qU;exact KV
 ·have n50:¬a6<=50:=(by rw[KU];have:(50:UInt8).toNat=50:=rfl;omega);have n51:¬a6=51:=(by rintro rfl;revert h;decide);have n52:¬a6=52:=(by rintro rfl;revert h;decide);have q0:(Op.bytesLess (D.extract 5 6).toList [50] || (D.extract 5 6).toList== [50])=false:=(by rw[HQ.out,bl1,KQ,KW,V0];refine⟨fun hh=>n50 (UInt8.le_of_lt hh),fun hh=>n50 ?_⟩;rw[show a6=50 by simpa using hh];exact UInt8.le_refl _);have q1:((D.extract 5 6).toList== [51])=false:=(by rw[HQ.out,V0];simpa using n51);have q2:((D.extract 5 6).toList== [52])=false:=(by rw[HQ.out,V0];simpa using n52);have HG:Hid ((N++D.extract 0 5++⟨#[48,48,48,48]⟩++D.extract 5 6++C).data.toList=res):=B0 (by rw[<-HR.out];simp only[X3,C4,HN.out,HC.out,HE.out,Z0,HD.out];unfold Ea.exp8 Ea.exp7;simp[n50,n51,n52]);clear h n50 n51 n52;go_wp2;go_ret;exact⟨HF.out _ HG.out,Xf⟩
theorem dV {k:Int} {l:List UInt8} (h:Ea.digs l=true) (hk:(k=4∧l.length=8)∨(k≠4∧2<=l.length∧l.length<=4096)):
 Cd.verI 1 (if k=4 then Ea.exp8 l else l)=0↔Ea.good (if k=4 then Ea.exp8 l else l):=by
 rcases hk with⟨rfl,h8⟩|⟨hk,h2,h3⟩
 ·rw[G0 rfl];exact Ea.ver_good (Ea.exp8_digs h) (by rw[Ea.exp8_len h8];omega) (by rw[Ea.exp8_len h8];omega)
 ·rw[D0 hk];exact Ea.ver_good h h2 h3
theorem UT (k:Int) (s:ByteArray) (hd:Ea.digs s.data.toList=true) (hk:(k=4∧s.size=8)∨(k≠4∧2<=s.size∧s.size<=4096)) (w:World):
 Calls prog 50 #[.int .i64 k,.string s] w fun e w'=>e=.returned (.bool (decide (Ea.good (if k=4 then Ea.exp8 s.data.toList else s.data.toList))))∧Ext w w':=by
 have hi:=dV (k:=k) hd (by rw[Za];exact hk)
 obtain⟨res,hres⟩:∃res,decide (Ea.good (if k=4 then Ea.exp8 s.data.toList else s.data.toList))=res:=⟨_,rfl⟩
 rw[hres]
 have HR:Hid ((Cd.verI 1 (if k=4 then Ea.exp8 s.data.toList else s.data.toList)==0)=res):=B0 (by rw[<-hres,U4,C2,V1];exact hi)
 clear hres hi hd
 rcases hk with⟨rfl,h8⟩|⟨hk,h2,h3⟩
 ·rw[G0 rfl]at HR;have HX:=B0 (qT s h8);have hsz:(Ea.bS (Ea.exp8 s.data.toList)).size<=9223372036854775807:=(by rw[Zc (Ea.bS_list _),Ea.exp8_len (by rw[Za];exact h8)];omega);have HV:=B0 (fun w=>MG 1 (Ea.bS (Ea.exp8 s.data.toList)) w hsz);rw[Ea.bS_list]at HV;generalize Ea.exp8 s.data.toList=u at*;clear hsz;generalize Ea.bS u=U at*;go_enter func50,ntmps50;go_wp2_with fail;refine(HX.out _).mono ?_;rintro e w1 ⟨rfl,hx1⟩;go_wp2_with fail;refine(HV.out _).mono ?_;rintro e w2 ⟨rfl,hx2⟩;generalize Cd.verI 1 u=r at*;cases hb:r==0<;>rw[hb]at HR;(·go_wp2;go_ret;exact⟨Zm HR.out,hx1.trans hx2⟩);·go_wp2;go_ret;exact⟨Zm HR.out,hx1.trans hx2⟩
 ·rw[D0 hk]at HR;have hkb:(k==4)=false:=V0.2 hk;have HV:=B0 (fun w=>MG 1 s w C0);clear hk h2 h3;go_enter func50,ntmps50;go_wp2_with fail;refine(HV.out _).mono ?_;rintro e w2 ⟨rfl,hx2⟩;generalize Cd.verI 1 s.data.toList=r at*;cases hb:r==0<;>rw[hb]at HR;(·go_wp2;go_ret;exact⟨Zm HR.out,hx2⟩);·go_wp2;go_ret;exact⟨Zm HR.out,hx2⟩
def strE (r:List UInt8×Int):Value:=.tuple #[.string (Ea.bS r.1),.int .i64 r.2]
theorem eQ (s:ByteArray) (h:0<s.size):s.data.toList.getD 0 0=s[0]:=Q6
theorem xT (s:ByteArray) (h:0<s.size) (hd:Ea.digs s.data.toList=true):(s[0]==48 || s[0]==49)=decide (s.data.toList.getD 0 0<=49):=by
 have h1:=Ea.digs_iff.1 hd s[0] (Zq s 0 h);rw[eQ s h];generalize s[0]=c at*;rw[U4,F8,C2,C2,V1,KU];constructor;·rintro(rfl|rfl)<;>decide
 ·intro h2;have h2:c.toNat<=49:=h2;have h3:c.toNat=48∨c.toNat=49:=C0;rcases h3 with h3|h3;(·exact .inl (O7.1 h3));·exact .inr (O7.1 h3)
theorem xU (k:Int) (l:List UInt8):Ea.full k l=if Ea.size k=0 then 1 else if Ea.digs l=false then 6 else if l.length≠Ea.size k then 7 else if k=4∧¬l.getD 0 0<=49 then 9
 else if Ea.good (if k=4 then Ea.exp8 l else l)then 0 else 8:=by
 by_cases h1:Ea.size k=0
 ·rw[G0 h1];unfold Ea.full Ea.comp;rw[D0 (fun h=>h.1 h1),G0 h1]
 ·rw[D0 h1];by_cases h2:Ea.digs l=false;(·rw[G0 h2];unfold Ea.full Ea.comp;rw[D0 (fun h=>by rw[h2]at h;exact Bool.noConfusion h.2.1),D0 h1,G0 h2]);·rw[D0 h2];have h2':Ea.digs l=true:=F4;by_cases h3:l.length≠Ea.size k;(·rw[G0 h3];unfold Ea.full;by_cases h4:l.length+1=Ea.size k;(·rw[G0 ⟨h1,h2',h4⟩]);·rw[D0 (fun h=>h4 h.2.2)];unfold Ea.comp;rw[D0 h1,D0 h2,G0 ⟨h3,h4⟩]);·rw[D0 h3];have h3':l.length=Ea.size k:=C0;by_cases h4:k=4∧¬l.getD 0 0<=49;(·rw[G0 h4];unfold Ea.full;rw[D0 C0];unfold Ea.comp;rw[D0 h1,D0 h2,D0 C0,G0 ⟨h4.1,UInt8.not_le.1 h4.2⟩]);·rw[D0 h4,Ea.full_zero h1 h2' h3' (fun e=>by by_cases e2:l.getD 0 0<=49;exact e2;exact absurd ⟨e,e2⟩ h4)];have hg:=Ea.good_of h1 h3';by_cases h5:Ea.good (if k=4 then Ea.exp8 l else l);(·rw[G0 h5,G0 (hg.2 h5)]);·rw[D0 h5,D0 (fun h=>h5 (hg.1 h))]
theorem xV (l:List UInt8) (hd:Ea.digs l=true) (h1:1<=l.length) (h2:l.length<=4000):Cd.compI 1 l=([Ea.chk l],0):=by
 unfold Cd.compI;rw[D0 C0];show Cd.comp 1 l=_;unfold Cd.comp;rw[D0 (fun e=>by rw[e]at h1;simp at h1),D0 C0,D0,D0];·rfl
 ·have:Cd.fits 1 (l.length+Cd.size 1)=true:=(by show decide (1<l.length+1)=true;rw[V1];omega);rw[this];simp
 ·rw[W6];exact hd
theorem JH (k:Int) (s:ByteArray) (hs:s.size<=9223372036854775807) (w:World):
 Calls prog 17 #[.int .i64 k,.string s] w fun e w'=>e=.returned (strE (Ea.comp k s.data.toList))∧Ext w w':=by
 have HX:=B0 (Ea.comp.eq_1 k s.data.toList)
 have HD:=B0 (KR s hs)
 have HZ:=B0 (KN k)
 rw[Za]at HX
 by_cases h1:Ea.size k=0
 ·rw[G0 h1]at HX;rw[h1]at HZ;generalize Ea.comp k s.data.toList=res at*;clear h1;go_enter func17,ntmps17;go_wp2_with fail;refine(HZ.out _).mono ?_;exact xW
 ·rw[D0 h1]at HX;have hkk:=Ea.kinds h1;obtain⟨hn1,hn2⟩:8<=Ea.size k∧Ea.size k<=13:=xX;have hn4:k=4->Ea.size k=8:=(by rintro rfl;rfl);by_cases h2:Ea.digs s.data.toList=false;(·rw[G0 h2]at HX;rw[h2]at HD;generalize Ea.comp k s.data.toList=res at*;generalize Ea.size k=n at*;have b1:((n:Int)==0)=false:=V0.2 C0;clear h1 h2 hkk hn4;exact xY);·have h2':Ea.digs s.data.toList=true:=F4;rw[D0 h2]at HX;rw[h2']at HD;have b1:((Ea.size k:Int)==0)=false:=V0.2 C0;by_cases h3:s.size≠Ea.size k∧s.size+1≠Ea.size k;(·rw[G0 h3]at HX;generalize Ea.comp k s.data.toList=res at*;generalize Ea.size k=n at*;have b3:((s.size:Int) !=(n:Int))=true:=E1;have b4:((s.size:Int) !=(n:Int)-1)=true:=E1;clear h1 h2 hkk hn4 h3 h2';exact xY);·rw[D0 h3]at HX;have h0:0<s.size:=C0;have HN:=B0 (qR s h0);rw[xT s h0 h2']at HN;have H48:=B0 hn4;clear hn4;by_cases h4:k=4∧49<s.data.toList.getD 0 0;(·rw[G0 h4]at HX;obtain⟨rfl,h4⟩:=h4;rw[D1 (UInt8.not_le.2 h4)]at HN;generalize Ea.comp 4 s.data.toList=res at*;generalize Ea.size 4=n at*;by_cases h5:s.size=n;(·have b3:((s.size:Int) !=(n:Int))=false:=E1;exact Q4);·have b3:((s.size:Int) !=(n:Int))=true:=E1;have b4:((s.size:Int) !=(n:Int)-1)=false:=E1;exact Q4);·rw[D0 h4]at HX;have h49:k=4->s.data.toList.getD 0 0<=49:=fun e=>PG.1 fun e2=>h4 ⟨e,e2⟩;clear h4;by_cases h5:s.size=Ea.size k;(·have HRI:=B0 (UT k s h2' (by by_cases e:k=4;exact .inl ⟨e,by rw[h5,H48.out e]⟩;exact .inr ⟨e,by omega,by omega⟩));have hg:=Ea.good_of h1 (by rw[Za];exact h5);have HTK:Hid (Ea.good (if k=4 then Ea.exp8 s.data.toList else s.data.toList)->s.data.toList.take (Ea.size k-1)++[Ea.chkOf k (s.data.toList.take (Ea.size k-1))]=s.data.toList):=B0 (fun h=>(hg.2 h).symm);have HX8:Hid (Ea.comp k s.data.toList=if Ea.good (if k=4 then Ea.exp8 s.data.toList else s.data.toList)then(s.data.toList,0)else([],8)):=B0 (by rw[HX.out];by_cases h6:Ea.good (if k=4 then Ea.exp8 s.data.toList else s.data.toList);(·rw[D0 (fun hh=>hh.2 (hg.2 h6)),G0 h6,HTK.out h6]);·rw[G0 ⟨h5,fun hh=>h6 (hg.1 hh)⟩,D0 h6]);have b3:((s.size:Int) !=(Ea.size k:Int))=false:=E1;have b5:((s.size:Int)==(Ea.size k:Int))=true:=E1;have HBS:Hid (Value.string s=.string (Ea.bS s.data.toList)):=B0 (by rw[Ea.bS_of]);clear HX hg HTK;by_cases h4:k=4;(·subst h4;rw[F1 (h49 rfl)]at HN;generalize Ea.comp 4 s.data.toList=res at*;generalize Ea.size 4=n at*;by_cases h6:Ea.good (if(4:Int)=4 then Ea.exp8 s.data.toList else s.data.toList);(·rw[F1 h6]at HRI;have HX:=B0 (HX8.out.trans (G0 h6));clear h1 h2 hkk h3 h2' h5 h6 HX8;go_enter func17,ntmps17;go_wp2_with fail;refine(HZ.out _).mono ?_;rintro e w1 ⟨rfl,rfl⟩;go_wp2_with fail;refine(HD.out _).mono ?_;rintro e w1 ⟨rfl,rfl⟩;go_wp2_with fail;refine(HN.out _).mono ?_;exact xZ);·rw[D1 h6]at HRI;have HX:=B0 (HX8.out.trans (D0 h6));clear h1 h2 hkk h3 h2' h5 h6 HX8;go_enter func17,ntmps17;go_wp2_with fail;refine(HZ.out _).mono ?_;rintro e w1 ⟨rfl,rfl⟩;go_wp2_with fail;refine(HD.out _).mono ?_;rintro e w1 ⟨rfl,rfl⟩;go_wp2_with fail;refine(HN.out _).mono ?_;exact zB);·have b4:(k==4)=false:=V0.2 h4;generalize Ea.comp k s.data.toList=res at*;generalize Ea.size k=n at*;by_cases h6:Ea.good (if k=4 then Ea.exp8 s.data.toList else s.data.toList);(·rw[F1 h6]at HRI;have HX:=B0 (HX8.out.trans (G0 h6));clear h1 h2 hkk h3 h2' h5 h6 HX8 h4 h49;go_enter func17,ntmps17;go_wp2_with fail;refine(HZ.out _).mono ?_;rintro e w1 ⟨rfl,rfl⟩;go_wp2_with fail;refine(HD.out _).mono ?_;exact xZ);·rw[D1 h6]at HRI;have HX:=B0 (HX8.out.trans (D0 h6));clear h1 h2 hkk h3 h2' h5 h6 HX8 h4 h49;go_enter func17,ntmps17;go_wp2_with fail;refine(HZ.out _).mono ?_;rintro e w1 ⟨rfl,rfl⟩;go_wp2_with fail;refine(HD.out _).mono ?_;exact zB);·have h6:s.size+1=Ea.size k:=C0;have hT:s.data.toList.take (Ea.size k-1)=s.data.toList:=P1 YH;have HX9:Hid (Ea.comp k s.data.toList=(s.data.toList++[Ea.chkOf k s.data.toList],0)):=B0 (by rw[HX.out,D0 (fun h=>h5 h.1),hT]);have b3:((s.size:Int) !=(Ea.size k:Int))=true:=E1;have b4:((s.size:Int) !=(Ea.size k:Int)-1)=false:=E1;have b5:((s.size:Int)==(Ea.size k:Int))=false:=E1;have HOUT:Hid (∀c:UInt8,Value.string (s++⟨[c].toArray⟩)=.string (Ea.bS (s.data.toList++[c]))):=B0 (fun c=>by rw[<-Ea.bS_of (s++⟨[c].toArray⟩),X3,C4]);clear HX hT;by_cases h4:k=4;(·subst h4;rw[F1 (h49 rfl)]at HN;have h7:s.size=7:=(by have:=H48.out rfl;omega);have hZs:(s++⟨#[48]⟩:ByteArray).size=8:=(by rw[K9,h7];rfl);have HEX:=B0 (qT (s++⟨#[48]⟩) hZs);have hE7:(Ea.exp8 (s++⟨#[48]⟩:ByteArray).data.toList).take 11=Ea.exp7 s.data.toList:=(by rw[Ea.exp8_take (by rw[Za];exact hZs)];congr 1;rw[X3,C4];exact Ea.take_app _ _ _ (by rw[Za];exact h7.symm));have hEs:(Ea.bS (Ea.exp8 (s++⟨#[48]⟩:ByteArray).data.toList)).size=12:=(by rw[Zc (Ea.bS_list _),Ea.exp8_len (by rw[Za];exact hZs)]);have hEC:((Ea.bS (Ea.exp8 (s++⟨#[48]⟩:ByteArray).data.toList)).extract 0 11).data.toList=Ea.exp7 s.data.toList:=(by rw[Zz,Ea.bS_list,hE7]);have HCO:=B0 (xV (Ea.exp7 s.data.toList) (Ea.exp7_digs h2') zC zC);have hk4:Ea.chkOf 4 s.data.toList=Ea.chk (Ea.exp7 s.data.toList):=rfl;rw[hk4]at HX9;generalize Ea.comp 4 s.data.toList=res at*;generalize Ea.bS (Ea.exp8 (s++⟨#[48]⟩:ByteArray).data.toList)=U at*;have HCM:=B0 (fun w=>SR 1 (U.extract 0 11) w Y8);rw[hEC,HCO.out]at HCM;have HZ3:=B0 (KN 3);rw[show((Ea.size 3:Nat):Int)=12 from rfl]at HZ3;generalize Ea.size 4=n at*;generalize Ea.chk (Ea.exp7 s.data.toList)=cd at*;have h7':s.size<=7:=C0;clear h1 h2 hkk h3 h2' h5 h6 hE7 hEC HCO hk4 H48 hZs h49 h7;go_enter func17,ntmps17;go_wp2_with fail;refine(HZ.out _).mono ?_;rintro e w1 ⟨rfl,rfl⟩;go_wp2_with fail;refine(HD.out _).mono ?_;rintro e w1 ⟨rfl,rfl⟩;go_wp2_with fail;refine(HN.out _).mono ?_;rintro e w1 ⟨rfl,rfl⟩;go_wp2_with fail;refine(HEX.out _).mono ?_;rintro e w2 ⟨rfl,hx2⟩;go_wp2_with fail;refine(HZ3.out _).mono ?_;rintro e w1 ⟨rfl,rfl⟩;go_wp2_with fail;refine(HCM.out _).mono ?_;rintro e w3 ⟨rfl,hx3⟩;dsimp only;go_wp2;go_ret2;exact⟨by rw[HX9.out,HOUT.out];rfl,hx2.trans hx3⟩);·have b6:(k==4)=false:=V0.2 h4;have HCO:=B0 (xV s.data.toList h2' YH YH);have hk4:Ea.chkOf k s.data.toList=Ea.chk s.data.toList:=(by unfold Ea.chkOf;rw[D0 h4]);rw[hk4]at HX9;have HCM:=B0 (fun w=>SR 1 s w hs);rw[HCO.out]at HCM;generalize Ea.comp k s.data.toList=res at*;generalize Ea.size k=n at*;generalize Ea.chk s.data.toList=cd at*;have hs13:s.size<=13:=C0;clear h1 h2 hkk h3 h2' h5 h6 HCO hk4 H48 h49 h4;go_enter func17,ntmps17;go_wp2_with fail;refine(HZ.out _).mono ?_;rintro e w1 ⟨rfl,rfl⟩;go_wp2_with fail;refine(HD.out _).mono ?_;rintro e w1 ⟨rfl,rfl⟩;go_wp2_with fail;refine(HCM.out _).mono ?_;rintro e w3 ⟨rfl,hx3⟩;dsimp only;go_wp2;go_ret2;exact⟨by rw[HX9.out,HOUT.out];rfl,hx3⟩
end
end Go.Proofs.YtbngggoccndefaaGreatDoor
