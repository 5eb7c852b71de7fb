/-
  Laid.
-/
import Derived.Test.YtbngggoccndefaaGreatDoorLe12
set_option maxHeartbeats 8000000
set_option maxRecDepth 100000
set_option linter.all false
namespace Go.Proofs.Enc
open Go.Proofs.Tryz
section
namespace Cd
def aHo(i:Nat):wt [1,3] 10 i=if i%2=0 then 1 else 3:=by
 have h:∀j:Fin 2,((([1,3]:List Int).getD j.1 0).tmod 10+10)%10=if j.1=0 then 1 else 3:=by decide
 exact h ⟨i%2,WZ _ I0⟩
def ws_gs(s:List UInt8):wsP [1,3] 10 s=(gsF s).1%10:=by
 induction s with
 |nil=>rfl
 |cons c l ih=>simp only[wsP,gsF,ih,aHo,gsF_w];exact Y7
def ver_digits(k:Nat)(l:List UInt8)(d:UInt8)(_h1:1<=k)(_h8:k<=8)(h7:k≠7)(h6:k≠6)(hs:IP (l++[d]))(hl:(l++[d]).length<=4096):ver k (l++[d])=0↔fits k (l++[d]).length=true/\cmp k l=[d]:=by
 have hz:size k=1:=D0 h6;have hcut:(l++[d]).length-size k=l.length:=by rw[hz,S0,Y9];omega
 obtain⟨Ft,Dx⟩:=aDR hs;have Fg:=Dx d (D3.2 rfl);have aCD:∀c:UInt8,48<=c.toNat/\c.toNat<=57->isDig (c.toNat:Int)=true:=λc hc=>by simp only[isDig,P1,G2];omega
 rw[ver_zero_iff,hcut,VF,TJ];constructor;·intro h;exact⟨h.2.1,h.2.2.2.2⟩
 .intro h;refine⟨hl,h.1,λc hc=> ?_,λc hc=> ?_,h.2⟩;(·rw[datB,D0 h7];exact aCD c (Ft c hc));·rw[D3]at hc;subst hc;rw[chkB,D0 h7];split;(·rw[aCD c Fg];rfl);·exact aCD c Fg
def last_of(s:List UInt8)(h:2<=s.length):∃l d,s=l++[d]/\l≠ []:=by
 have k7:s≠ []:=by rintro rfl;simp at h
 refine⟨s.dropLast,s.getLast k7,(CA k7).symm,?_⟩;intro e;have:=V0 List.length e;rw[List.length_dropLast]at this;simp only[I3]at this;omega
def chr_eq(v:Int)(d:UInt8)(h0:0<=v)(h1:v<=10)(hd:48<=d.toNat/\d.toNat<=57): [chr v]=[d]↔v=dg d:=by
 constructor;·intro h;have e:chr v=d:=Y4;rw[<-aHl v h0 h1,e,aHm hd]
 .intro h;have:=dg_bd hd;rw[List.cons_eq_cons];refine⟨dg_inj ?_,rfl⟩;rw[aFS v h0 C0,h]
def sums1(s:List UInt8)(hs:IP s)(h2:2<=s.length)(hl:s.length<=4096):ver 1 s=0↔wsP [1,3] 10 s=0:=by
 obtain⟨l,d,rfl,k7⟩:=last_of s h2;obtain⟨Ft,Dx⟩:=aDR hs;have Fg:=Dx d (D3.2 rfl);have hb:=dg_bd Fg;rw[ver_digits 1 l d I0 I0 I0 I0 hs hl,ws_gs,gsF_snoc];have hf:fits 1 (l++[d]).length=true:=by show decide (1<(l++[d]).length)=true;exact C1 C0
 simp only[cmp,hf,true_and];rw[chr_eq _ d C0 C0 Fg];omega
end Cd
namespace Ea
def aAu{l:List UInt8}(h:o6 l=true):Cd.IP l:=Ck.1 h
def split_last{l:List UInt8}(h:0<l.length):∃d,l=l.take (l.length-1)++[d]:=by
 refine⟨l[l.length-1],?_⟩;conv=>lhs;rw[<-G7 (l.length-1) l]
 congr 1;rw[F5 C0,O5 C0]
def Ap(l:List UInt8):Prop:=l=l.take (l.length-1)++[Bk (l.take (l.length-1))]
instance (l:List UInt8):Decidable (Ap l):=inferInstanceAs (Decidable (l=_))
def ver_good{l:List UInt8}(h:o6 l=true)(h2:2<=l.length)(h3:l.length<=4096):Cd.verI 1 l=0↔Ap l:=by
 obtain⟨d,hd⟩:=split_last (l:=l) C0;have hlen:(l.take (l.length-1)).length=l.length-1:=by rw[J1];omega
 rw[show(1:Int)=((1:Nat):Int)from rfl,Cd.verI_nat 1 l C0 C0];unfold Ap;generalize l.take (l.length-1)=r at*;subst hd;rw[Cd.ver_digits 1 r d C0 C0 C0 C0 (aAu h) h3];have hf:Cd.fits 1 (r++[d]).length=true:=by unfold Cd.fits;simp[Cd.size];simp at h2;omega
 constructor;·intro h4;have h5:Cd.cmp 1 r=[d]:=(by first|exact h4.2|exact h4.2.1|exact h4.2.2);have h6:Cd.cmp 1 r=[Bk r]:=rfl;rw[<-h5,h6]
 .intro h4;have h5: [d]=[Bk r]:=CS h4;first|exact⟨hf,h5.symm⟩|(refine⟨hf,?_⟩;rw[h5];rfl)
def exp7_len{l:List UInt8}(h:l.length=7):(Gf l).length=11:=by unfold Gf;(repeat' split)<;>simp<;>omega
def exp7_digs{l:List UInt8}(h:o6 l=true):o6 (Gf l)=true:=by
 have hz4:o6 [48,48,48,48]=true:=by decide
 have hz5:o6 [48,48,48,48,48]=true:=by decide
 unfold Gf;(repeat' split)<;>simp only[aAw];·exact⟨⟨⟨Gx h _,Gx (Gn h _) _⟩,hz4⟩,Gx (Gn h _) _⟩
 .exact aJ
 .exact aJ
 .exact⟨⟨Gx h _,hz4⟩,Gx (Gn h _) _⟩
def exp8_len{l:List UInt8}(h:l.length=8):(Bl l).length=12:=by unfold Bl;rw[S0,exp7_len V6,X1];omega
def aFY{l:List UInt8}(h:o6 l=true):o6 (Bl l)=true:=by unfold Bl;rw[aAw];exact⟨exp7_digs (Gx h _),Gn h _⟩
def aDX{l:List UInt8}(h:l.length=8):(Bl l).take 11=Gf (l.take 7):=by unfold Bl;exact aEd _ _ _ (exp7_len V6).symm
def good_of{k:Int}{l:List UInt8}(h1:size k≠0)(h3:l.length=size k):l=l.take (size k-1)++[Hm k (l.take (size k-1))]↔Ap (if k=4 then Bl l else l):=by
 by_cases h4:k=4;·subst h4;have e:size 4=8:=rfl;rw[e]at h3⊢;rw[G0 rfl];unfold Ap Hm;rw[G0 rfl,exp8_len h3,aDX h3];obtain⟨d,hd⟩:=split_last (l:=l) C0;rw[h3]at hd;have Ja:l.drop 7=[d]:=(by rw[hd];exact aFV _ _ _ V6);constructor;(·intro h;have h5: [d]=[Bk (Gf (l.take 7))]:=CS (hd.symm.trans h);show Bl l=_;unfold Bl;rw[Ja,h5]);·intro h;have h5: [d]=[Bk (Gf (l.take 7))]:=(by unfold Bl at h;rw[Ja]at h;exact CS h);show l=_;rw[<-h5];exact hd
 .rw[D0 h4];unfold Ap Hm;rw[D0 h4,h3]
def len8{l:List UInt8}(h:l.length=8):∃a0 a1 a2 a3 a4 a5 a6 a7,l=[a0,a1,a2,a3,a4,a5,a6,a7]:=by
 match l,h with
 | [a0,a1,a2,a3,a4,a5,a6,a7],_=>exact⟨_,_,_,_,_,_,_,_,rfl⟩
def aFR{s:List Bool}:∀(l:List (Nat×Nat))(e:Int),e≠0->(∀p∈l,fits s p.1 p.2=true->(He s p.1 p.2).2=0->True)->(decF s e l).2=0->∃p∈l,fits s p.1 p.2=true/\(He s p.1 p.2).2=0/\decF s e l=He s p.1 p.2:=by
 intro l
 induction l with
 |nil=>intro e he _ h;exact absurd h he
 |cons p l ih=>intro e he hp h;obtain⟨n,a⟩:=p;rw[decF]at h⊢;by_cases h1:fits s n a=false;(·rw[G0 h1]at h⊢;obtain⟨q,q1,q2⟩:=ih e he (λ_ _ _ _=>trivial) h;exact⟨q,Y1 _ q1,q2⟩);·rw[D0 h1]at h⊢;by_cases h2:(He s n a).2=0;(·rw[G0 h2];exact⟨(n,a),C2 ..,by simpa using h1,h2,rfl⟩);·rw[D0 h2]at h⊢;obtain⟨q,q1,q2⟩:=ih _ (by split<;>assumption) (λ_ _ _ _=>trivial) h;exact⟨q,Y1 _ q1,q2⟩
def trim(s:List Bool):List Bool:=(s.drop (ldg s)).take (s.length-Ac s-ldg s)
def aDV{s:List Bool}(h:(dec s).2=0):dec s=decF (trim s) 7 aBU:=by
 unfold dec at h⊢;split;·rename_i h1;exact VY
 rename_i h1;rw[D0 h1]at h;split;·rename_i h2;exact SZ
 rename_i h2;rw[D0 h2]at h;split;·rename_i h3;exact LC
 rfl
def aHR{n:Nat}{s:List Bool}(hn:n=2\/n=5)(h:(rdAdd n s).2=0):(rdAdd n s).1.length=n:=by
 have key:∀(Iy m:Nat)(s:List Bool)(l:List UInt8)(u:List Nat),rcg true 0 Iy m s=some (l,u)->l.length=m:=by
  intro Iy m
  induction m with
  |zero=>intro s l u h;cases h;rfl
  |succ m ih=>
   intro s l u h
   rw[rcg]at h
   cases h1:look true 0 (s.take 7)with
   |none=>rw[h1]at h;cases h
   |some p=>
    rw[h1]at h
    dsimp only at h
    cases h2:rcg true 0 Iy m (s.drop (7+Iy))with
    |none=>rw[h2]at h;cases h
    |some q=>rw[h2]at h;cases h;simp[ih _ _ _ h2]
 unfold rdAdd at h⊢;split
 .rename_i h1;exact VY
 rename_i h1;rw[D0 h1]at h;split
 .rename_i h2;exact SZ
 rename_i h2;rw[D0 h2]at h;cases h3:rcg true 0 2 n (s.drop 4)with
 |none=>rw[h3]at h;cases h
 |some p=>obtain⟨l,u⟩:=p;rw[h3]at h;dsimp only at h⊢;split;(·rename_i h4;rw[G0 h4]at h;cases h);·exact key _ _ _ _ _ h3
end Ea
end
section
open Go.RowKit
def CU(k:Int)(w:World):Calls prog 47 #[.int .i64 k] w λe w'=>e=.returned (.int .i64 (Ea.size k:Int))/\w=w':=by
 have h:k=1\/k=2\/k=3\/k=4\/(k≠1/\k≠2/\k≠3/\k≠4):=by omega
 rcases h with rfl|rfl|rfl|rfl|⟨h1,h2,h3,h4⟩;·exact PG
 .exact PG
 .exact PG
 .exact PG
 .have e:Ea.size k=0:=aK;have b1:(k==1)=false:=O0.2 h1;have b2:(k==2)=false:=O0.2 h2;have b3:(k==3)=false:=O0.2 h3;have b4:(k==4)=false:=O0.2 h4;rw[e];clear h1 h2 h3 h4 e;exact PG
def Zko(k:Int)(w:World):Calls prog 108 #[.int .i64 k] w λe w'=>e=.returned (.tuple #[.int .i64 (Ea.lq k:Int),.int .i64 (Ea.rq k:Int)])/\w=w':=by
 have h:k=1\/k=2\/k=3\/(k≠1/\k≠2/\k≠3):=by omega
 rcases h with rfl|rfl|rfl|⟨h1,h2,h3⟩;·exact LD
 .exact LD
 .exact LD
 .have e:Ea.lq k=9/\Ea.rq k=7:=(by unfold Ea.lq Ea.rq;rw[D0 h1,D0 h2,D0 h3];exact XB);have b1:(k==1)=false:=O0.2 h1;have b2:(k==2)=false:=O0.2 h2;have b3:(k==3)=false:=O0.2 h3;rw[e.1,e.2];clear h1 h2 h3 e;exact LD
def LE(n:Nat)(h:n=0\/n=2\/n=5)(w:World):Calls prog 211 #[.int .i64 (n:Int)] w λe w'=>e=.returned (.int .i64 (Ea.Co n:Int))/\w=w':=by
 rcases h with rfl|rfl|rfl;·exact CV
 .exact CV
 .exact CV
def aL(s:ByteArray)(h:0<s.size)(w:World):Calls prog 49 #[.string s] w λe w'=>e=.returned (.bool (s[0]==48 || s[0]==49))/\w=w':=by
 obtain⟨c,hc⟩:∃c,s[0]=c:=⟨_,rfl⟩;rw[hc];have hlt:(0:Int)<(s.size:Int):=by omega
 have e48:∀d:UInt8,(c==d)=((c.toNat:Int)==(d.toNat:Int)):=λd=>by rw[K4,I1,I1];exact⟨λe=>by rw[e],λe=>V4.1 C0⟩
 rw[e48,e48];by_cases h0:c.toNat=48;·have b0:((c.toNat:Int)==48)=true:=TK;have b0':(c.toNat==48)=true:=TK;have j7:(((c.toNat:Int)==((48:UInt8).toNat:Int)) || ((c.toNat:Int)==((49:UInt8).toNat:Int)))=true:=TK;rw[j7];clear e48 j7 h0;exact CW
 .have b0:((c.toNat:Int)==48)=false:=O0.2 C0;by_cases h1:c.toNat=49;(·have b1:((c.toNat:Int)==49)=true:=RL;have j7:(((c.toNat:Int)==((48:UInt8).toNat:Int)) || ((c.toNat:Int)==((49:UInt8).toNat:Int)))=true:=RL;rw[j7];clear e48 j7 h0 h1;exact CW);·have b1:((c.toNat:Int)==49)=false:=O0.2 C0;have j7:(((c.toNat:Int)==((48:UInt8).toNat:Int)) || ((c.toNat:Int)==((49:UInt8).toNat:Int)))=false:=(by rw[XF];exact⟨b0,b1⟩);rw[j7];clear e48 j7 h0 h1;exact CW
def CX(s:ByteArray)(hs:s.size<=9223372036854775807)(w:World):
 Calls prog 48 #[.string s] w λe w'=>e=.returned (.bool (Ea.o6 s.data.toList))/\w=w':=by
 obtain⟨res,j7⟩:∃res,Ea.o6 s.data.toList=res:=⟨_,rfl⟩;rw[j7];have Ak:=B0 j7;clear j7;go_enter func48,ntmps48;go_wp2;go_loop [6] (λi=>∃k:Nat,k<=s.size/\i=.int .i64 (k:Int)/\Hid ((s.data.toList.take k).all (λc=>Cd.isDig c.toNat)=true)) (λi=>s.size-(intOf i).toNat)
 case atStart=>exact C7
 case round=>obtain⟨k,hk,rfl,IL⟩:=hrel;by_cases hlt:k<s.size;(·have HA:=B0 (NE s (λc=>Cd.isDig c.toNat) k hlt);have HN:=B0 (NF s (λc=>Cd.isDig c.toNat) k hlt);have h3:s[k].toNat<48\/(48<=s[k].toNat/\57<s[k].toNat)\/(48<=s[k].toNat/\s[k].toNat<=57):=C0;rcases h3 with h3|⟨h3,h4⟩|⟨h3,h4⟩;(·have HF:Hid (res=false):=B0 (by rw[<-Ak.out];exact HN.out LF);have b1:(s[k].toNat:Int)<48:=C0;clear h3 HA HN;exact XG);(·have HF:Hid (res=false):=B0 (by rw[<-Ak.out];exact HN.out LF);have b1:¬(s[k].toNat:Int)<48:=C0;have b2:(57:Int)<(s[k].toNat:Int):=C0;clear h3 h4 HA HN;exact XG);·have HO:Hid ((s.data.toList.take (k+1)).all (λc=>Cd.isDig c.toNat)=true):=B0 aM;have b1:¬(s[k].toNat:Int)<48:=C0;have b2:¬(57:Int)<(s[k].toNat:Int):=C0;clear h3 h4 HA HN;exact PH);·obtain rfl:k=s.size:=C0;have HF:Hid (res=true):=B0 (by rw[<-Ak.out];have:=IL.out;rw[Zu]at this;exact this);clear hk hlt IL;exact XG
def bl1(a b:UInt8):Op.bytesLess [a] [b]=decide (a<b):=by simp[Op.bytesLess]
def Zn0{a:ByteArray}{l:List UInt8}(h:a.data.toList=l):Ending.returned (.string a)=.returned (.string (Ea.bS l)):=by rw[<-h,Ea.Xm]
def aN(s:ByteArray)(h8:s.size=8)(w:World):
 Calls prog 51 #[.string s] w λe w'=>e=.returned (.string (Ea.bS (Ea.Bl s.data.toList)))/\Ext w w':=by
 obtain⟨res,j7⟩:∃res,Ea.Bl s.data.toList=res:=⟨_,rfl⟩;rw[j7];obtain⟨a0,a1,a2,a3,a4,a5,a6,a7,hl⟩:=Ea.len8 (l:=s.data.toList) (by rw[Za];exact h8);rw[hl]at j7;have HR:=B0 j7;have HL:=B0 hl;clear j7 hl;go_enter func51,ntmps51;go_wp2;go_quiet (fail);obtain⟨N,hN⟩:∃N,s.extract 0 1=N:=⟨_,rfl⟩;obtain⟨D,hD⟩:∃D,s.extract 1 7=D:=⟨_,rfl⟩;obtain⟨C,hC⟩:∃C,s.extract 7 8=C:=⟨_,rfl⟩;rw[hN,hD,hC];have HN:Hid (N.data.toList=[a0]):=B0 (by rw[<-hN,Zr,HL.out];rfl);have HD:Hid (D.data.toList=[a1,a2,a3,a4,a5,a6]):=B0 (by rw[<-hD,Zr,HL.out];rfl);have HC:Hid (C.data.toList=[a7]):=B0 (by rw[<-hC,Zr,HL.out];rfl);have Ky:D.size=6:=by rw[Zd HD.out];rfl
 have hNs:N.size=1:=by rw[Zd HN.out];rfl
 have hCs:C.size=1:=by rw[Zd HC.out];rfl
 clear hN hD hC;have HQ:Hid ((D.extract 5 6).toList=[a6]):=B0 (by rw[I2,Zr,HD.out];rfl);have HF:Hid (∀(x:ByteArray),x.data.toList=res->Ending.returned (.string x)=.returned (.string (Ea.bS res))):=B0 (λx hx=>Zn0 hx);have h:a6.toNat<=50\/a6.toNat=51\/a6.toNat=52\/52<a6.toNat:=by omega
 have HE:Hid ((D.extract 5 6).data.toList=[a6]):=B0 (by rw[Zr,HD.out];rfl);rcases h with h|h|h|h
 .have q0:(Op.bytesLess (D.extract 5 6).toList [50] || (D.extract 5 6).toList== [50])=true:=(by rw[HQ.out,bl1,I8,G2,I1,BA];have:(50:UInt8).toNat=50:=rfl;by_cases e:a6.toNat=50;(·exact .inr (by rw[show a6=50 from V4.1 e]));·exact .inl C0);have c1:a6<=50:=(by rw[PI];exact h);have HG:Hid ((N++D.extract 0 2++D.extract 5 6++⟨#[48,48,48,48]⟩++D.extract 2 5++C).data.toList=res):=B0 (by rw[<-HR.out];simp only[A4,B4,HN.out,HC.out,HE.out,Zr,HD.out];unfold Ea.Bl Ea.Gf;simp[c1]);exact BB
 .obtain rfl:a6=51:=V4.1 h;have q0:(Op.bytesLess (D.extract 5 6).toList [50] || (D.extract 5 6).toList== [50])=false:=(by rw[HQ.out,bl1];rfl);have q1:((D.extract 5 6).toList== [51])=true:=(by rw[HQ.out];rfl);have HG:Hid ((N++D.extract 0 3++⟨#[48,48,48,48,48]⟩++D.extract 3 5++C).data.toList=res):=B0 aO;exact BB
 .obtain rfl:a6=52:=V4.1 h;have q0:(Op.bytesLess (D.extract 5 6).toList [50] || (D.extract 5 6).toList== [50])=false:=(by rw[HQ.out,bl1];rfl);have q1:((D.extract 5 6).toList== [51])=false:=(by rw[HQ.out];rfl);have q2:((D.extract 5 6).toList== [52])=true:=(by rw[HQ.out];rfl);have HG:Hid ((N++D.extract 0 4++⟨#[48,48,48,48,48]⟩++D.extract 4 5++C).data.toList=res):=B0 aO;exact BB
 .have n50:¬a6<=50:=aP;have n51:¬a6=51:=LG;have n52:¬a6=52:=LG;have q0:(Op.bytesLess (D.extract 5 6).toList [50] || (D.extract 5 6).toList== [50])=false:=(by rw[HQ.out,bl1,XF,PJ,O0];refine⟨λhh=>n50 (UInt8.le_of_lt hh),λhh=>n50 ?_⟩;rw[show a6=50 by simpa using hh];exact UInt8.le_refl _);have q1:((D.extract 5 6).toList== [51])=false:=(by rw[HQ.out,O0];simpa using n51);have q2:((D.extract 5 6).toList== [52])=false:=(by rw[HQ.out,O0];simpa using n52);have HG:Hid ((N++D.extract 0 5++⟨#[48,48,48,48]⟩++D.extract 5 6++C).data.toList=res):=B0 (by rw[<-HR.out];simp only[A4,B4,HN.out,HC.out,HE.out,Zr,HD.out];unfold Ea.Bl Ea.Gf;simp[n50,n51,n52]);clear h n50 n51 n52;go_wp2;go_ret;exact⟨HF.out _ HG.out,Xf⟩
def Zkw{k:Int}{l:List UInt8}(h:Ea.o6 l=true)(hk:(k=4/\l.length=8)\/(k≠4/\2<=l.length/\l.length<=4096)):
 Cd.verI 1 (if k=4 then Ea.Bl l else l)=0↔Ea.Ap (if k=4 then Ea.Bl l else l):=by
 rcases hk with⟨rfl,h8⟩|⟨hk,h2,h3⟩
 .rw[G0 rfl];exact Ea.ver_good (Ea.aFY h) (by rw[Ea.exp8_len h8];omega) (by rw[Ea.exp8_len h8];omega)
 .rw[D0 hk];exact Ea.ver_good h h2 h3
def PK(k:Int)(s:ByteArray)(hd:Ea.o6 s.data.toList=true)(hk:(k=4/\s.size=8)\/(k≠4/\2<=s.size/\s.size<=4096))(w:World):
 Calls prog 50 #[.int .i64 k,.string s] w λe w'=>e=.returned (.bool (decide (Ea.Ap (if k=4 then Ea.Bl s.data.toList else s.data.toList))))/\Ext w w':=by
 have hi:=Zkw (k:=k) hd (by rw[Za];exact hk);obtain⟨res,j7⟩:∃res,decide (Ea.Ap (if k=4 then Ea.Bl s.data.toList else s.data.toList))=res:=⟨_,rfl⟩;rw[j7];have HR:Hid ((Cd.verI 1 (if k=4 then Ea.Bl s.data.toList else s.data.toList)==0)=res):=B0 (by rw[<-j7,K4,I1,G2];exact hi);clear j7 hi hd;rcases hk with⟨rfl,h8⟩|⟨hk,h2,h3⟩
 .rw[G0 rfl]at HR;have HX:=B0 (aN s h8);have o4:(Ea.bS (Ea.Bl s.data.toList)).size<=9223372036854775807:=(by rw[Zd (Ea.Bw _),Ea.exp8_len (by rw[Za];exact h8)];omega);have HV:=B0 (λw=>ED 1 (Ea.bS (Ea.Bl s.data.toList)) w o4);rw[Ea.Bw]at HV;generalize Ea.Bl s.data.toList=u at*;clear o4;generalize Ea.bS u=U at*;go_enter func50,ntmps50;go_wp2_with fail;refine(HX.out _).mono ?_;rintro e w1 ⟨rfl,b7⟩;go_wp2_with fail;refine(HV.out _).mono ?_;rintro e w2 ⟨rfl,j0⟩;generalize Cd.verI 1 u=r at*;cases hb:r==0<;>rw[hb]at HR;(·go_wp2;go_ret;exact⟨Zn HR.out,b7.trans j0⟩);·go_wp2;go_ret;exact⟨Zn HR.out,b7.trans j0⟩
 .rw[D0 hk]at HR;have hkb:(k==4)=false:=O0.2 hk;have HV:=B0 (λw=>ED 1 s w C0);clear hk h2 h3;go_enter func50,ntmps50;go_wp2_with fail;refine(HV.out _).mono ?_;rintro e w2 ⟨rfl,j0⟩;generalize Cd.verI 1 s.data.toList=r at*;cases hb:r==0<;>rw[hb]at HR;(·go_wp2;go_ret;exact⟨Zn HR.out,j0⟩);·go_wp2;go_ret;exact⟨Zn HR.out,j0⟩
def strE(r:List UInt8×Int):Value:=.tuple #[.string (Ea.bS r.1),.int .i64 r.2]
def Zlp(s:ByteArray)(h:0<s.size):s.data.toList.getD 0 0=s[0]:=UT
def bP(s:ByteArray)(h:0<s.size)(hd:Ea.o6 s.data.toList=true):(s[0]==48 || s[0]==49)=decide (s.data.toList.getD 0 0<=49):=by
 have h1:=Ea.Ck.1 hd s[0] (Zl s 0 h);rw[Zlp s h];generalize s[0]=c at*;rw[K4,I8,I1,I1,G2,PI];constructor;·rintro(rfl|rfl)<;>decide
 .intro h2;have h2:c.toNat<=49:=h2;have h3:c.toNat=48\/c.toNat=49:=C0;rcases h3 with h3|h3;(·exact .inl (V4.1 h3));·exact .inr (V4.1 h3)
def bQ(k:Int)(l:List UInt8):Ea.full k l=if Ea.size k=0 then 1 else if Ea.o6 l=false then 6 else if l.length≠Ea.size k then 7 else if k=4/\¬l.getD 0 0<=49 then 9
 else if Ea.Ap (if k=4 then Ea.Bl l else l)then 0 else 8:=by
 by_cases h1:Ea.size k=0
 .rw[G0 h1];unfold Ea.full Ea.comp;rw[D0 (λh=>h.1 h1),G0 h1]
 .rw[D0 h1];by_cases h2:Ea.o6 l=false;(·rw[G0 h2];unfold Ea.full Ea.comp;rw[D0 (λh=>by rw[h2]at h;exact Bool.noConfusion h.2.1),D0 h1,G0 h2]);·rw[D0 h2];have As:Ea.o6 l=true:=B9;by_cases h3:l.length≠Ea.size k;(·rw[G0 h3];unfold Ea.full;by_cases h4:l.length+1=Ea.size k;(·rw[G0 ⟨h1,As,h4⟩]);·rw[D0 (λh=>h4 h.2.2)];unfold Ea.comp;rw[D0 h1,D0 h2,G0 ⟨h3,h4⟩]);·rw[D0 h3];have h3':l.length=Ea.size k:=C0;by_cases h4:k=4/\¬l.getD 0 0<=49;(·rw[G0 h4];unfold Ea.full;rw[D0 C0];unfold Ea.comp;rw[D0 h1,D0 h2,D0 C0,G0 ⟨h4.1,UInt8.not_le.1 h4.2⟩]);·rw[D0 h4,Ea.aF2 h1 As h3' (λe=>by by_cases e2:l.getD 0 0<=49;exact e2;exact absurd ⟨e,e2⟩ h4)];have hg:=Ea.good_of h1 h3';by_cases h5:Ea.Ap (if k=4 then Ea.Bl l else l);(·rw[G0 h5,G0 (hg.2 h5)]);·rw[D0 h5,D0 (λh=>h5 (hg.1 h))]
def bR(l:List UInt8)(hd:Ea.o6 l=true)(h1:1<=l.length)(h2:l.length<=4000):Cd.compI 1 l=([Ea.Bk l],0):=by
 unfold Cd.compI;rw[D0 C0];show Cd.comp 1 l=_;unfold Cd.comp;rw[D0 (λe=>by rw[e]at h1;simp at h1),D0 C0,D0,D0];·rfl
 .have:Cd.fits 1 (l.length+Cd.size 1)=true:=(by show decide (1<l.length+1)=true;rw[G2];omega);rw[this];simp
 .rw[WV];exact hd
def ZfR(k:Int)(s:ByteArray)(hs:s.size<=9223372036854775807)(w:World):
 Calls prog 17 #[.int .i64 k,.string s] w λe w'=>e=.returned (strE (Ea.comp k s.data.toList))/\Ext w w':=by
 have HX:=B0 (Ea.comp.eq_1 k s.data.toList);have HD:=B0 (CX s hs);have HZ:=B0 (CU k);rw[Za]at HX;by_cases h1:Ea.size k=0
 .rw[G0 h1]at HX;rw[h1]at HZ;generalize Ea.comp k s.data.toList=res at*;clear h1;go_enter func17,ntmps17;go_wp2_with fail;refine(HZ.out _).mono ?_;exact Q8
 .rw[D0 h1]at HX;have Ah:=Ea.kinds h1;obtain⟨IU,Av⟩:8<=Ea.size k/\Ea.size k<=13:=BP;have Ha:k=4->Ea.size k=8:=(by rintro rfl;rfl);by_cases h2:Ea.o6 s.data.toList=false;(·rw[G0 h2]at HX;rw[h2]at HD;generalize Ea.comp k s.data.toList=res at*;generalize Ea.size k=n at*;have b1:((n:Int)==0)=false:=O0.2 C0;clear h1 h2 Ah Ha;go_enter func17,ntmps17;exact QY);·have As:Ea.o6 s.data.toList=true:=B9;rw[D0 h2]at HX;rw[As]at HD;have b1:((Ea.size k:Int)==0)=false:=O0.2 C0;by_cases h3:s.size≠Ea.size k/\s.size+1≠Ea.size k;(·rw[G0 h3]at HX;generalize Ea.comp k s.data.toList=res at*;generalize Ea.size k=n at*;have b3:((s.size:Int) !=(n:Int))=true:=X0;have b4:((s.size:Int) !=(n:Int)-1)=true:=X0;clear h1 h2 Ah Ha h3 As;go_enter func17,ntmps17;exact QY);·rw[D0 h3]at HX;have h0:0<s.size:=C0;have HN:=B0 (aL s h0);rw[bP s h0 As]at HN;have H48:=B0 Ha;clear Ha;by_cases h4:k=4/\49<s.data.toList.getD 0 0;(·rw[G0 h4]at HX;obtain⟨rfl,h4⟩:=h4;rw[G1 (UInt8.not_le.2 h4)]at HN;generalize Ea.comp 4 s.data.toList=res at*;generalize Ea.size 4=n at*;by_cases h5:s.size=n;(·have b3:((s.size:Int) !=(n:Int))=false:=X0;exact bT);·have b3:((s.size:Int) !=(n:Int))=true:=X0;have b4:((s.size:Int) !=(n:Int)-1)=false:=X0;exact bT);·rw[D0 h4]at HX;have Kg:k=4->s.data.toList.getD 0 0<=49:=λe=>LB.1 λe2=>h4 ⟨e,e2⟩;clear h4;by_cases h5:s.size=Ea.size k;(·have Iu:=B0 (PK k s As (by by_cases e:k=4;exact .inl ⟨e,by rw[h5,H48.out e]⟩;exact .inr ⟨e,by omega,by omega⟩));have hg:=Ea.good_of h1 (by rw[Za];exact h5);have Fp:Hid (Ea.Ap (if k=4 then Ea.Bl s.data.toList else s.data.toList)->s.data.toList.take (Ea.size k-1)++[Ea.Hm k (s.data.toList.take (Ea.size k-1))]=s.data.toList):=B0 (λh=>(hg.2 h).symm);have Lz:Hid (Ea.comp k s.data.toList=if Ea.Ap (if k=4 then Ea.Bl s.data.toList else s.data.toList)then(s.data.toList,0)else([],8)):=B0 (by rw[HX.out];by_cases h6:Ea.Ap (if k=4 then Ea.Bl s.data.toList else s.data.toList);(·rw[D0 (λhh=>hh.2 (hg.2 h6)),G0 h6,Fp.out h6]);·rw[G0 ⟨h5,λhh=>h6 (hg.1 hh)⟩,D0 h6]);have b3:((s.size:Int) !=(Ea.size k:Int))=false:=X0;have b5:((s.size:Int)==(Ea.size k:Int))=true:=X0;have HBS:Hid (Value.string s=.string (Ea.bS s.data.toList)):=B0 (by rw[Ea.Xm]);clear HX hg Fp;by_cases h4:k=4;(·subst h4;rw[C1 (Kg rfl)]at HN;generalize Ea.comp 4 s.data.toList=res at*;generalize Ea.size 4=n at*;by_cases h6:Ea.Ap (if(4:Int)=4 then Ea.Bl s.data.toList else s.data.toList);(·rw[C1 h6]at Iu;have HX:=B0 (Lz.out.trans (G0 h6));clear h1 h2 Ah h3 As h5 h6 Lz;go_enter func17,ntmps17;go_wp2_with fail;refine(HZ.out _).mono ?_;rintro e w1 ⟨rfl,rfl⟩;go_wp2_with fail;refine(HD.out _).mono ?_;rintro e w1 ⟨rfl,rfl⟩;go_wp2_with fail;refine(HN.out _).mono ?_;exact bU);·rw[G1 h6]at Iu;have HX:=B0 (Lz.out.trans (D0 h6));clear h1 h2 Ah h3 As h5 h6 Lz;go_enter func17,ntmps17;go_wp2_with fail;refine(HZ.out _).mono ?_;rintro e w1 ⟨rfl,rfl⟩;go_wp2_with fail;refine(HD.out _).mono ?_;rintro e w1 ⟨rfl,rfl⟩;go_wp2_with fail;refine(HN.out _).mono ?_;exact bV);·have b4:(k==4)=false:=O0.2 h4;generalize Ea.comp k s.data.toList=res at*;generalize Ea.size k=n at*;by_cases h6:Ea.Ap (if k=4 then Ea.Bl s.data.toList else s.data.toList);(·rw[C1 h6]at Iu;have HX:=B0 (Lz.out.trans (G0 h6));clear h1 h2 Ah h3 As h5 h6 Lz h4 Kg;go_enter func17,ntmps17;go_wp2_with fail;refine(HZ.out _).mono ?_;rintro e w1 ⟨rfl,rfl⟩;go_wp2_with fail;refine(HD.out _).mono ?_;exact bU);·rw[G1 h6]at Iu;have HX:=B0 (Lz.out.trans (D0 h6));clear h1 h2 Ah h3 As h5 h6 Lz h4 Kg;go_enter func17,ntmps17;go_wp2_with fail;refine(HZ.out _).mono ?_;rintro e w1 ⟨rfl,rfl⟩;go_wp2_with fail;refine(HD.out _).mono ?_;exact bV);·have h6:s.size+1=Ea.size k:=C0;have hT:s.data.toList.take (Ea.size k-1)=s.data.toList:=S1 L7;have Fc:Hid (Ea.comp k s.data.toList=(s.data.toList++[Ea.Hm k s.data.toList],0)):=B0 (by rw[HX.out,D0 (λh=>h5 h.1),hT]);have b3:((s.size:Int) !=(Ea.size k:Int))=true:=X0;have b4:((s.size:Int) !=(Ea.size k:Int)-1)=false:=X0;have b5:((s.size:Int)==(Ea.size k:Int))=false:=X0;have aDJ:Hid (∀c:UInt8,Value.string (s++⟨[c].toArray⟩)=.string (Ea.bS (s.data.toList++[c]))):=B0 (λc=>by rw[<-Ea.Xm (s++⟨[c].toArray⟩),A4,B4]);clear HX hT;by_cases h4:k=4;(·subst h4;rw[C1 (Kg rfl)]at HN;have h7:s.size=7:=(by have:=H48.out rfl;omega);have hZs:(s++⟨#[48]⟩:ByteArray).size=8:=(by rw[ZZ,h7];rfl);have HEX:=B0 (aN (s++⟨#[48]⟩) hZs);have hE7:(Ea.Bl (s++⟨#[48]⟩:ByteArray).data.toList).take 11=Ea.Gf s.data.toList:=(by rw[Ea.aDX (by rw[Za];exact hZs)];congr 1;rw[A4,B4];exact Ea.aEd _ _ _ (by rw[Za];exact h7.symm));have hEs:(Ea.bS (Ea.Bl (s++⟨#[48]⟩:ByteArray).data.toList)).size=12:=(by rw[Zd (Ea.Bw _),Ea.exp8_len (by rw[Za];exact hZs)]);have hEC:((Ea.bS (Ea.Bl (s++⟨#[48]⟩:ByteArray).data.toList)).extract 0 11).data.toList=Ea.Gf s.data.toList:=(by rw[Zx,Ea.Bw,hE7]);have Fz:=B0 (bR (Ea.Gf s.data.toList) (Ea.exp7_digs As) (by rw[Ea.exp7_len LV];omega) (by rw[Ea.exp7_len LV];omega));have Nh:Ea.Hm 4 s.data.toList=Ea.Bk (Ea.Gf s.data.toList):=rfl;rw[Nh]at Fc;generalize Ea.comp 4 s.data.toList=res at*;generalize Ea.bS (Ea.Bl (s++⟨#[48]⟩:ByteArray).data.toList)=U at*;have Ut:=B0 (λw=>NH 1 (U.extract 0 11) w W4);rw[hEC,Fz.out]at Ut;have HZ3:=B0 (CU 3);rw[show((Ea.size 3:Nat):Int)=12 from rfl]at HZ3;generalize Ea.size 4=n at*;generalize Ea.Bk (Ea.Gf s.data.toList)=cd at*;have h7':s.size<=7:=C0;clear h1 h2 Ah h3 As h5 h6 hE7 hEC Fz Nh H48 hZs Kg h7;go_enter func17,ntmps17;go_wp2_with fail;refine(HZ.out _).mono ?_;rintro e w1 ⟨rfl,rfl⟩;go_wp2_with fail;refine(HD.out _).mono ?_;rintro e w1 ⟨rfl,rfl⟩;go_wp2_with fail;refine(HN.out _).mono ?_;rintro e w1 ⟨rfl,rfl⟩;go_wp2_with fail;refine(HEX.out _).mono ?_;rintro e w2 ⟨rfl,j0⟩;go_wp2_with fail;refine(HZ3.out _).mono ?_;rintro e w1 ⟨rfl,rfl⟩;go_wp2_with fail;refine(Ut.out _).mono ?_;rintro e w3 ⟨rfl,j4⟩;dsimp only;go_wp2;go_ret2;exact⟨by rw[Fc.out,aDJ.out];rfl,j0.trans j4⟩);·have b6:(k==4)=false:=O0.2 h4;have Fz:=B0 (bR s.data.toList As L7 L7);have Nh:Ea.Hm k s.data.toList=Ea.Bk s.data.toList:=(by unfold Ea.Hm;rw[D0 h4]);rw[Nh]at Fc;have Ut:=B0 (λw=>NH 1 s w hs);rw[Fz.out]at Ut;generalize Ea.comp k s.data.toList=res at*;generalize Ea.size k=n at*;generalize Ea.Bk s.data.toList=cd at*;have aGc:s.size<=13:=C0;clear h1 h2 Ah h3 As h5 h6 Fz Nh H48 Kg h4;go_enter func17,ntmps17;go_wp2_with fail;refine(HZ.out _).mono ?_;rintro e w1 ⟨rfl,rfl⟩;go_wp2_with fail;refine(HD.out _).mono ?_;rintro e w1 ⟨rfl,rfl⟩;go_wp2_with fail;refine(Ut.out _).mono ?_;rintro e w3 ⟨rfl,j4⟩;dsimp only;go_wp2;go_ret2;exact⟨by rw[Fc.out,aDJ.out];rfl,j4⟩
end
section
namespace Ln
def aFP(s:List Bool):Ro s=false↔Rn.core s=[]:=by
 unfold Ro;rcases Rn.row_split s with⟨h1,h2,_⟩|⟨m,h1,_,h3⟩;·refine⟨λ_=>h1,λ_=> ?_⟩;rw[h2];simp
 .refine⟨λh=> ?_,λh=> ?_⟩;(·exfalso;have hm:true∈s:=(by rw[h3,h1];simp);rw[<-UW,VK]at h;exact h ⟨true,hm,rfl⟩);·rw[h1]at h;cases h
def aHS(row:List Bool):aAZ row.reverse=aAE (Rn.widths row).reverse (Ea.Ac row) (Ea.ldg row):=by obtain⟨_,h1,h2,h3⟩:=Rn.aEh row;unfold aAZ;rw[h1,h2];unfold Rn.widths;rw[h3,List.map_reverse]
def aD2(rows:List (List Bool)):(Ap rows).length<=rows.length:=List.length_filterMap_le _ _
end Ln
namespace Ln
def Vm:S:=[53,57,48,49,50,51,52,49,50,51,52,53,55]
def Vl:List Bool:=(Ea.enc 1 Vm []).1
def Ur(l:List Bool):List Bool:=l.reverse.flatMap λb=>[b,b,b]
def ex_dec:decode Vl=((1,Vm,[]),0):=L2
def ex_read3:read (Ur Vl)=((1,Vm,[]),0):=L2
def ex_two:read [false,false]=(zero,5):=L2
def ex_vote:vote [Vl,[],Ur Vl]=((1,Vm,[]),2,0):=L2
def ex_len:Vl.length=113:=L2
end Ln
end
section
open Go.RowKit
def AN{l:List UInt8}{r:Gs.y7}(h:Gs.find l=some r):((l,r)∈Gs.dir/\r.2.2.2=0)\/∃k c,l=k++[c]/\(k,r)∈Gs.dir/\r.2.2.2≠0/\48<=c.toNat/\c.toNat<=r.2.2.2.toNat:=by
 have aBN:l≠ []->∀r',Gs.find2 l=some r'->∃k c,l=k++[c]/\(k,r')∈Gs.dir/\r'.2.2.2≠0/\48<=c.toNat/\c.toNat<=r'.2.2.2.toNat:=by intro k7 r' h';unfold Gs.find2 at h';split at h';(·rename_i r1 h1;split at h';(·simp at h');·rename_i h2;simp only[P2]at h';subst h';rw[not_or,not_or]at h2;obtain⟨h3,h4,h5⟩:=h2;refine⟨l.take (l.length-1),l.getD (l.length-1) 0,?_,PE h1,h3,?_,?_⟩;(·have e1:l.dropLast++[l.getLast k7]=l:=CA k7;have e2:l.getD (l.length-1) 0=l.getLast k7:=(by rw[F1,List.getLast_eq_getElem,P0 (by have:=D8.2 k7;omega)];rfl);rw[e2,<-List.dropLast_eq_take];exact e1.symm);(·rw[A9]at h4;have:(48:UInt8).toNat=48:=rfl;omega);·rw[A9]at h5;omega);·simp at h'
 unfold Gs.find at h;split at h;·rename_i r1 h1;have k7:l≠ []:=(by intro e;rw[e,rW]at h1;simp at h1);split at h;(·rename_i h0;simp only[P2]at h;subst h;exact .inl ⟨PE h1,h0⟩);·exact .inr (aBN k7 _ h)
 .split at h;(·simp at h);·rename_i k7;exact .inr (aBN k7 _ h)
def Gs.Tl:List UInt8:=[48,49,50,51,52,53,54,55,56,57]
def dU(c:UInt8)(h1:48<=c.toNat)(h2:c.toNat<=57):c∈Gs.Tl:=by
 have e:c=UInt8.ofNat c.toNat:=by simp
 have:c.toNat=48\/c.toNat=49\/c.toNat=50\/c.toNat=51\/c.toNat=52\/c.toNat=53\/c.toNat=54\/c.toNat=55\/c.toNat=56\/c.toNat=57:=by omega
 rw[e];rcases this with h|h|h|h|h|h|h|h|h|h<;>rw[h]<;>decide
def Gs.aCB(P:List UInt8->Gs.y7->Bool):Bool:=Gs.dir.all λp=>if p.2.2.2.2=0 then P p.1 p.2 else Gs.Tl.all λc=>decide (p.2.2.2.2.toNat<c.toNat) || P (p.1++[c]) p.2
def ZmN:∀p∈Gs.dir,p.2.2.2.2.toNat<=57:=L2
def ZmC(P:List UInt8->Gs.y7->Bool)(hP:Gs.aCB P=true){l:List UInt8}{r:Gs.y7}(h:Gs.find l=some r):P l r=true:=by
 unfold Gs.aCB at hP;rw[M1]at hP;rcases AN h with⟨h1,h2⟩|⟨k,c,rfl,h1,h2,h3,h4⟩;·have:=hP _ h1;rw[G0 h2]at this;exact L3
 .have:=hP _ h1;rw[D0 h2,M1]at this;have h5:=this c (dU c h3 (F3 h4 (ZmN _ h1)));simp only[I8,G2]at h5;rcases h5 with h5|h5;(·omega);·exact h5
def Gs.aDQ(l:List UInt8):Bool:=decide (2<=l.length)&&decide (l.length<=4)&&l.all (λc=>Cd.isDig c.toNat)&&(decide (l.length<=2) || (Gs.find (l.take 2)).isNone)&&(decide (l.length<=3) || (Gs.find (l.take 3)).isNone)
def ZnH:Gs.aCB (λl _=>Gs.aDQ l)=true:=L2
def XJ{l:List UInt8}{r:Gs.y7}(h:Gs.find l=some r):2<=l.length/\l.length<=4/\Cd.IP l/\(2<l.length->Gs.find (l.take 2)=none)/\(3<l.length->Gs.find (l.take 3)=none):=by have:=ZmC _ ZnH h;unfold Gs.aDQ at this;simp only[P1,I8,G2,M1,Option.isNone_iff_eq_none]at this;obtain⟨⟨⟨⟨h1,h2⟩,h3⟩,h4⟩,h5⟩:=this;refine⟨h1,h2,λc hc=> ?_,λh=>h4.resolve_left C0,λh=>h5.resolve_left C0⟩;have:=h3 c hc;simp[Cd.isDig]at this;omega
def VL{a d:List UInt8}(h:Gs.ver a d=0):∃r,Gs.find a=some r/\Gs.verR r d=0:=by
 unfold Gs.ver at h;split at h;·simp at h
 .rename_i r hr;exact⟨r,hr,h⟩
def dV{r:Gs.y7}{d:List UInt8}(h:Gs.verR r d=0):r.2.1<=(d.length:Int)/\(d.length:Int)<=r.2.2.1/\d.all (Gs.okc r.1)=true:=by
 unfold Gs.verR at h;split at h;·simp at h
 .split at h;(·simp at h);·rename_i h1 h2;exact⟨by omega,by omega,by simpa using h2⟩
def Znr(k:Int)(c:UInt8)(h:Gs.okc k c=true):c≠40/\c≠41/\c.toNat<=127:=by
 have key:∀n:Fin 256,(Cd.isDig ((UInt8.ofNat n.val).toNat) || Gs.charB (UInt8.ofNat n.val))=true->UInt8.ofNat n.val≠40/\UInt8.ofNat n.val≠41/\(UInt8.ofNat n.val).toNat<=127:=L2;have e:UInt8.ofNat c.toNat=c:=by simp
 have:=key ⟨c.toNat,LT c⟩;dsimp only at this;rw[e]at this;apply this;unfold Gs.okc at h;cases h1:Cd.isDig c.toNat;·rw[h1]at h;simp only[WJ,P1]at h;rw[h.2];rfl
 .rfl
def Zm1{a d:List UInt8}(h:Gs.ver a d=0):∀c∈d,c≠40/\c≠41/\c.toNat<=127:=by obtain⟨r,_,h2⟩:=VL h;obtain⟨_,_,h3⟩:=dV h2;intro c hc;exact Znr _ c (M1.1 h3 c hc)
def ZmL(l:List UInt8)(h:Cd.IP l):∀c∈l,c≠40/\c≠41/\c.toNat<=127:=by intro c hc;obtain⟨h1,h2⟩:=h c hc;refine⟨λe=> ?_,λe=> ?_,by omega⟩<;>(rw[e]at h1;simp at h1)
def Zo7{a d:List UInt8}(h:Gs.ver a d=0):∀c∈a,c≠40/\c≠41/\c.toNat<=127:=by obtain⟨r,h1,_⟩:=VL h;exact ZmL a (XJ h1).2.2.1
def XK(c:UInt8)(l:List UInt8):(∀b∈Gs.upto c l,b≠c)/\((Gs.upto c l=l)\/∃r,l=Gs.upto c l++c::r):=by
 induction l with
 |nil=>exact⟨by simp[Gs.upto],.inl rfl⟩
 |cons b l ih=>by_cases h:b=c;(·subst h;simp[Gs.upto]);·simp only[Gs.upto,D0 h];refine⟨λx hx=> ?_,?_⟩;(·rcases E2.1 hx with rfl|hx;(·exact h);·exact ih.1 x hx);·exact dW
def TV(c:UInt8)(l:List UInt8):(Gs.upto c l).length<=l.length:=by
 rcases(XK c l).2 with e|⟨r,e⟩;·rw[e];exact TW
 .exact AO
def dX(n:Nat)(acc:List Gs.El):Gs.parseF n [] acc=(acc,0):=by cases n<;>rfl
def Zkl(n:Nat):∀(l:List UInt8)(acc res:List Gs.El),l.length<=n->Gs.parseF n l acc=(res,0)->∃xs,res=acc++xs/\Gs.verL xs=0/\xs.flatMap Gs.fmtE=l:=by
 induction n with
 |zero=>intro l acc res hl h;obtain rfl:=U3 (by omega:l.length=0);exact dY
 |succ n ih=>
  intro l acc res hl h
  cases l with
  |nil=>exact dY
  |cons b r=>simp only[Gs.parseF]at h;split at h;(·simp at h);·rename_i hb;split at h;(·simp at h);·rename_i hlen;obtain⟨c1,c2⟩:=XK 41 r;rcases c2 with c2|⟨r2,c2⟩;(·rw[c2]at hlen;exact absurd rfl hlen);·generalize Gs.upto 41 r=a at*;have e3:r.drop (a.length+1)=r2:=(by rw[c2,<-P4,TJ];rfl);rw[e3]at h;obtain⟨d1,d2⟩:=XK 40 r2;have d3:=TV 40 r2;generalize Gs.upto 40 r2=d at*;split at h;(·rename_i hv;simp only[Y2]at h;exact absurd h.2 hv);·rename_i hv;have hv:Gs.ver a d=0:=L5 hv;have Jv:r.length=a.length+1+r2.length:=(by rw[c2];exact X0);obtain⟨xs,x1,x2,x3⟩:=ih (r2.drop d.length) _ res (by simp at hl⊢;omega) h;refine⟨(a,d)::xs,by rw[x1,V1];rfl,by simp only[Gs.verL];rw[G0 hv];exact x2,?_⟩;have hb:b=40:=L5 hb;have hd:d++r2.drop d.length=r2:=(by rcases d2 with d2|⟨r3,d2⟩;(·rw[d2];simp);·(conv=>lhs;rw[d2]);rw[TJ,<-d2]);have hc:((a,d)::xs).flatMap Gs.fmtE=40::(a++41::(d++xs.flatMap Gs.fmtE)):=(by simp[Gs.fmtE]);rw[hc,x3,hd,<-c2,hb]
def ZeE{xs:List Gs.El}{s:List UInt8}(h:Gs.parse s=(xs,0)):Gs.format xs=(s,0):=by
 unfold Gs.parse at h;split at h;·simp at h
 .split at h;(·simp at h);·rename_i h1 h2;obtain⟨ys,y1,y2,y3⟩:=Zkl _ s [] xs (J0 _) h;rw[G4]at y1;subst y1;have k7:xs≠ []:=λe=>h2 (by rw[<-y3,e];rfl);unfold Gs.format Gs.verAll;rw[D0 k7,D0 (by simpa using y2),y3,D0 h1]
def AP{x:Gs.El}{xs:List Gs.El}(h:Gs.verL (x::xs)=0):Gs.ver x.1 x.2=0/\Gs.verL xs=0:=by
 unfold Gs.verL at h;split at h;·rename_i h0;exact⟨h0,h⟩
 .rename_i h0;exact absurd h h0
def KF(l:List Int):(∀b∈Gs.run l,b≠256/\b∈l)/\((Gs.run l=l)\/∃r,l=Gs.run l++256::r):=by
 induction l with
 |nil=>exact⟨by simp[Gs.run],.inl rfl⟩
 |cons b l ih=>by_cases h:b=256;(·subst h;simp[Gs.run]);·simp only[Gs.run,D0 h];refine⟨λx hx=> ?_,?_⟩;(·rcases E2.1 hx with rfl|hx;(·exact⟨h,C2 ..⟩);·exact⟨(ih.1 x hx).1,Y1 _ (ih.1 x hx).2⟩);·exact dW
def dZ(l:List Int):(Gs.run l).length<=l.length:=by
 rcases(KF l).2 with e|⟨r,e⟩;·rw[e];exact TW
 .exact AO
def AQ(a b:List UInt8):Gs.ints (a++b)=Gs.ints a++Gs.ints b:=R2
def F9(a:List UInt8):(Gs.ints a).length=a.length:=M0 _
def TY(a:List Int):(Gs.text a).length=a.length:=M0 _
def ZjV(l:List Int)(h:∀b∈l,0<=b/\b<=127):Gs.ints (Gs.text l)=l:=by
 unfold Gs.text Gs.ints;rw[K7];conv=>rhs;rw[<-List.map_id l]
 refine VM λc hc=> ?_;obtain⟨h1,h2⟩:=h c hc;simp only[Function.comp,Gs.byte,id];rw[Int.emod_eq_of_lt h1 C0];exact eA
def eB{l a:List UInt8}{r:Gs.y7}(h:Gs.pre l=some (a,r)):Gs.find a=some r/\l.take a.length=a/\a.length<=l.length:=by
 have key:∀n,Gs.preN l n=some (a,r)->Gs.find a=some r/\l.take a.length=a/\a.length<=l.length:=by intro n hn;unfold Gs.preN at hn;split at hn;(·rename_i hle;rw[UQ]at hn;obtain⟨r',h1,h2⟩:=hn;simp only[Y2]at h2;obtain⟨rfl,rfl⟩:=h2;refine⟨h1,?_,by rw[J1];omega⟩;rw[J1,D7 hle]);·simp at hn
 unfold Gs.pre at h;rw[Option.or_eq_some_iff,Option.or_eq_some_iff]at h;rcases h with h|⟨_,h|⟨_,h⟩⟩;all_goals exact key _ h
def ZnM{xs:List Gs.El}(hv:Gs.verL xs=0)(h:xs≠ []):Gs.chG xs≠ []:=by
 cases xs with
 |nil=>exact absurd rfl h
 |cons x xs=>obtain⟨h0,_⟩:=AP hv;obtain⟨r,h1,_⟩:=VL h0;have:=(XJ h1).1;intro e;have:=V0 List.length e;simp only[Gs.chG,S0,F9,I3]at this;omega
def ZjP(n:Nat)(acc:List Gs.El):Gs.fromF n [] acc=(acc,0):=by cases n<;>rfl
def eC{c:List Int}(h:c.all Gs.okCh=true):∀b∈Gs.run c,0<=b/\b<=127:=by intro b hb;obtain⟨h1,h2⟩:=(KF c).1 b hb;have:=M1.1 h b h2;simp[Gs.okCh]at this;omega
def AR{c:List Int}{x:Gs.El}{k:Nat}(hc:c.all Gs.okCh=true)(h:Gs.next c=(x,k,0)):
 Gs.ver x.1 x.2=0/\0<k/\k<=c.length/\c=Gs.ints (x.1++x.2)++((if Gs.fixed x.1 || (c.drop k).isEmpty then []else [256])++c.drop k):=by
 have hrt:=eC hc;obtain⟨_,rc⟩:=KF c;have rl:=dZ c;unfold Gs.next at h;split at h
 .simp at h
 .rename_i Ju;split at h;(·simp at h)
  .rename_i a r hp;obtain⟨p1,p2,p3⟩:=eB hp;obtain⟨ro1,ro2,ro3,ro4,ro5,ro6,ro7,ro8⟩:=VC p1;have IL:=(XJ p1).1;have Pj:Gs.fixed a=Gs.isFix r:=(by unfold Gs.fixed;rw[p1]);rw[TY]at p3;have hit:Gs.ints (Gs.text (Gs.run c))=Gs.run c:=ZjV _ hrt;have aCP:a++(Gs.text (Gs.run c)).drop a.length=Gs.text (Gs.run c):=(by(conv=>lhs;rw[<-p2]);rw[J1,TY,D7 p3,G7]);split at h;(·rename_i hf;split at h;(·simp at h);·rename_i hlen;split at h;(·exact eD);·rename_i hv;simp only[Y2,W5]at h;obtain⟨rfl,rfl⟩:=h;dsimp only;refine⟨L5 hv,by omega,by omega,?_⟩;rw[Pj,hf];simp only[Bool.true_or,M3,G4];have e1:a++((Gs.text (Gs.run c)).drop a.length).take r.2.2.1.toNat=(Gs.text (Gs.run c)).take (a.length+r.2.2.1.toNat):=(by rw[List.take_add,p2]);have e2:Gs.ints ((Gs.text (Gs.run c)).take (a.length+r.2.2.1.toNat))=(Gs.run c).take (a.length+r.2.2.1.toNat):=(by unfold Gs.ints at hit⊢;rw[J8,hit]);rw[e1,e2];have e3:(Gs.run c).take (a.length+r.2.2.1.toNat)=c.take (a.length+r.2.2.1.toNat):=(by rcases rc with e|⟨q,e⟩;(·rw[e]);·(conv=>rhs;rw[e]);rw[SY C0]);rw[e3,G7])
   .rename_i hf;split at h;(·exact eD)
    .rename_i hv;split at h;(·simp at h)
     .rename_i aBb;simp only[Y2,W5]at h;obtain⟨rfl,rfl⟩:=h;dsimp only;refine⟨L5 hv,by omega,by omega,?_⟩;rw[Pj,aCP,hit];have hf':Gs.isFix r=false:=KE;rw[hf'];rcases rc with e|⟨q,e⟩;(·rw[e];have:min (c.length+1) c.length=c.length:=C0;rw[this,C6];simp)
      .have hl:c.length=(Gs.run c).length+1+q.length:=AO
       have hq:c.drop (min ((Gs.run c).length+1) c.length)=q:=by rw[D7 C0];have h5:(Gs.run c++256::q).drop ((Gs.run c).length+1)=q:=(by rw[<-P4,TJ];rfl);exact(V0 (List.drop ((Gs.run c).length+1)) e).trans h5
       rw[hq]
       cases q with
       |nil=>simp at hl;omega
       |cons y ys=>simp;exact e
def Zlu(n:Nat):∀(c:List Int)(acc res:List Gs.El),c.all Gs.okCh=true->c.length<=n->Gs.fromF n c acc=(res,0)->∃xs,res=acc++xs/\Gs.verL xs=0/\Gs.chG xs=c:=by
 induction n with
 |zero=>intro c acc res _ hl h;obtain rfl:=U3 (by omega:c.length=0);simp only[Gs.fromF,Y2,W5]at h;exact⟨[],by simp[h],rfl,rfl⟩
 |succ n ih=>
  intro c acc res hc hl h;rw[Gs.fromF]at h;split at h;(·rename_i h0;simp only[Y2,W5]at h;exact⟨[],by simp[h],rfl,by rw[h0];rfl⟩)
  .rename_i h0;split at h;(·exact KG)
   .rename_i h1;have h1:=L5 h1;generalize hn:Gs.next c=nx at*;obtain⟨x,k,e⟩:=nx;dsimp only at h h1;subst h1;obtain⟨v0,k0,k1,aCP⟩:=AR hc hn;obtain⟨xs,x1,x2,x3⟩:=ih (c.drop k) _ res (M1.2 λb hb=>M1.1 hc b (X7 hb)) YO h;refine⟨x::xs,by rw[x1,V1];rfl,by simp only[Gs.verL];rw[G0 v0];exact x2,?_⟩;have aFp:xs.isEmpty=(c.drop k).isEmpty:=by
     cases xs with
     |nil=>rw[<-x3];rfl
     |cons y ys=>
      have:=ZnM x2 L0
      rw[x3]at this
      cases hd:c.drop k with
      |nil=>exact absurd hd this
      |cons _ _=>rfl
    simp only[Gs.chG];rw[aFp,x3];exact aCP.symm
def ZkT{xs:List Gs.El}(hv:Gs.verL xs=0):(256::Gs.chG xs).all Gs.okCh=true:=by
 rw[KC];have:(Gs.chG xs).all Gs.okCh=true:=by
  induction xs with
  |nil=>rfl
  |cons x xs ih=>obtain⟨h0,h1⟩:=AP hv;simp only[Gs.chG,OA];rw[ih h1];have h2:∀l:List UInt8,(∀c∈l,c≠40/\c≠41/\c.toNat<=127)->(Gs.ints l).all Gs.okCh=true:=(by intro l hl;rw[M1];intro b hb;obtain⟨c,hc,rfl⟩:=I5.1 hb;have:=(hl c hc).2.2;simp[Gs.okCh];omega);rw[AQ,OA,h2 _ (Zo7 h0),h2 _ (Zm1 h0)];split<;>rfl
 rw[this];rfl
def ZfM{xs:List Gs.El}{c:List Int}(h:Gs.frChars c=(xs,0)):Gs.chars xs=(c,0):=by
 unfold Gs.frChars at h;split at h;·simp at h
 .split at h;(·simp at h)
  .split at h;(·simp at h)
   .split at h;(·simp at h)
    .rename_i h1 h2 h3 h4
     cases c with
     |nil=>simp at h3
     |cons b c=>have h3:b=256:=L5 h3;subst h3;have h2:(256::c).all Gs.okCh=true:=B9;rw[KC,P1]at h2;obtain⟨ys,y1,y2,y3⟩:=Zlu _ c [] xs h2.2 (by rw[B1];omega) h;rw[G4]at y1;subst y1;have k7:xs≠ []:=λe=>h4 (by rw[<-y3,e];rfl);unfold Gs.chars Gs.verAll;rw[D0 k7,D0 (by simpa using y2),y3,D0 h1]
end
end Go.Proofs.Enc
