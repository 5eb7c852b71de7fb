/-
  Laid.
-/
import Derived.Test.YtbngggoccndefaaGreatDoorLe10
set_option maxHeartbeats 8000000
set_option maxRecDepth 100000
set_option linter.all false
namespace Go.Proofs.Enc
open Go.Proofs.Tryz
section
open Go.RowKit Go.WideMaps Go.Maps
def B7:Option Gs.y7->Value
 |some r=>ZI r
 |none=>ZI (0,0,0,0)
def Gs.find2(l:List UInt8):Option Gs.y7:=match Gs.get Gs.dir (l.take (l.length-1))with
 |some r=>if r.2.2.2=0\/l.getD (l.length-1) 0<48\/r.2.2.2<l.getD (l.length-1) 0 then none else some r
 |none=>none
def Gs.find(l:List UInt8):Option Gs.y7:=match Gs.get Gs.dir l with
 |some r=>if r.2.2.2=0 then some r else Gs.find2 l
 |none=>if l=[]then none else Gs.find2 l
abbrev Dir(w:World)(b:Nat):Prop:=w.ownsMap prog 9 H8 b 200 (Gs.tabOf Gs.dir)
def Dir.ext{w w':World}{b:Nat}(h:Dir w b)(hx:Ext w w'):Dir w' b:=h.kept hx.Hl L0
def ZkK(w:World):(zeroValue 138).run prog w=.ok (ZI (0,0,0,0)) w:=D1
def rU(w:World)(b:Nat)(h:Dir w b)(s:ByteArray)(hs:s.size<=maxLen):
 (Instr.lookup 78 (.map (some b)) (.string s) true).run prog w=.ok (.tuple #[B7 (Gs.get Gs.dir s.data.toList),.bool (Gs.get Gs.dir s.data.toList).isSome]) w:=by
 obtain⟨v,ps,Cm,hv⟩:=h.look_ok (string_keyed (P:=prog) underlying9) underlying78 (ZkK w) (MQ (0,0,0,0)) (keyOf_string_mk underlying9 hs);obtain⟨t1,t2⟩:=ZkC Gs.dir s.data.toList;rw[Cm,t1];cases hg:Gs.get Gs.dir s.data.toList with
 |none=>rw[hg]at t1;rw[atKey_of_not_has t1]at hv;rw[rR hv];rfl
 |some r=>rw[t2 _ r hg]at hv;rw[rR hv];rfl
def MU(r:Gs.y7)(w:World):
 Calls prog 116 #[ZI r] w λe w'=>e=.returned (.bool (r.2.1==r.2.2.1))/\Ext w w':=by
 obtain⟨a,b,c,d⟩:=r;unfold ZI;dsimp only;go_enter func116,ntmps116;go_wp2;go_ret;exact⟨rfl,Xe⟩
def rV(r:Option Gs.y7)(w:World)(e:Ending)(w':World):Prop:=e=.returned (.tuple #[B7 r,.bool r.isSome])/\Ext w w'
def ZmV(s:ByteArray)(i:Nat)(h:i<s.size):s.data.toList.getD i 0=s[i]:=UT
def rW:Gs.get Gs.dir []=none:=L2
def A9(a b:UInt8):(a<b)=(a.toNat<b.toNat):=rfl
def rX(s:ByteArray)(b:Nat)(w:World)(hd:Dir w b)(hs:s.size<=maxLen)(ra rb rc:Int)(rd:UInt8)(ok:Bool)
 (Fu:∀o:Obj,(Instr.lookup 78 (.map (some b)) (.string s) true).run prog (w.alloc o)=.ok (.tuple #[.agg #[.int .i64 ra,.int .i64 rb,.int .i64 rc,.int .u8 (rd.toNat:Int)],.bool ok]) (w.alloc o))
 (x7:ok=false\/rd≠0)(k7:1<=s.size):
 Calls prog 97 #[.map (some b),.string s] w (rV (Gs.find2 s.data.toList) w):=by
 obtain⟨z,hz⟩:∃z,z=s.size-1:=⟨_,rfl⟩;have hzi:(s.size:Int)-1=(z:Int):=by omega
 have Mr:z<s.size:=by omega
 have Fm:=B0 (λo:Obj=>rU (w.alloc o) b (hd.alloc o) (s.extract 0 z) W4);rw[Zx]at Fm;have HF:=B0 (Gs.find2.eq_1 s.data.toList);rw[Za,<-hz,ZmV s z Mr]at HF;have Yp:s.toList.isEmpty=false:=PD;have hpz:¬s.toList=[]:=by rw[I2];exact rY
 have Le:maxLen=9223372036854775807:=rfl;rw[Le]at hs;have dr:ok=true->((rd.toNat:Int)==0)=false:=λh=>by rcases x7 with h1|h1;(·rw[h1]at h;exact Bool.noConfusion h);·rw[O0];intro e;exact h1 (V4.1 (by simpa using e))
 generalize Gs.find2 s.data.toList=res at*;have aBe:=Fm.out;clear Fm hz x7 Le hd;cases hg:Gs.get Gs.dir (s.data.toList.take z)with
 |none=>rw[hg]at HF;simp only[hg,B7,Option.isSome_none,ZI]at aBe;have HR:Hid (res=none):=B0 HF.out;clear HF hg;have aIg:∀o:Obj,(Instr.lookup 78 (.map (some b)) (.string (s.extract 0 z)) true).run prog (w.alloc o)=.ok (.tuple #[.agg #[.int .i64 0,.int .i64 0,.int .i64 0,.int .u8 0],.bool false]) (w.alloc o):=aBe;clear aBe;exact Qx
 |some r=>rw[hg]at HF;obtain⟨ya,yb,yc,yd⟩:=r;simp only[hg,B7,Option.isSome_some,ZI]at aBe;dsimp only at HF;clear hg;obtain⟨b0,Sb⟩:∃b0,((yd.toNat:Int)==0)=b0:=⟨_,rfl⟩;obtain⟨b1,o8⟩:∃b1,decide ((s[z].toNat:Int)<48)=b1:=⟨_,rfl⟩;obtain⟨b2,n7⟩:∃b2,decide ((yd.toNat:Int)<(s[z].toNat:Int))=b2:=⟨_,rfl⟩;have HC:Hid ((yd=0\/s[z]<48\/yd<s[z])↔(b0 || (b1 || b2))=true):=B0 (by rw[<-Sb,<-o8,<-n7,I8,I8,I1,G2,G2,A9,A9];have e0:yd=0↔(yd.toNat:Int)=0:=⟨λh=>by rw[h];rfl,λh=>V4.1 Y4⟩;rw[e0,show(48:UInt8).toNat=48 from rfl];omega);cases Ds:(b0 || (b1 || b2));(·rw[D0 (by rw[HC.out,Ds];exact Bool.noConfusion)]at HF;have HR:=HF;obtain⟨rfl,rfl,rfl⟩:b0=false/\b1=false/\b2=false:=(by cases b0<;>cases b1<;>cases b2<;>first|exact⟨rfl,rfl,rfl⟩|exact absurd Ds Bool.noConfusion);have n1:(48:Int)<=(s[z].toNat:Int):=(by simpa using o8);have n2:s[z].toNat<=yd.toNat:=(by simpa using n7);clear HC Ds o8 n7;cases ok;(·exact rZ);·have dr1:=dr rfl;exact rZ);·rw[G0 (by rw[HC.out,Ds])]at HF;have HR:=HF;clear HC;cases b0;(·cases b1;(·obtain rfl:b2=true:=(by simpa using Ds);have n1:(48:Int)<=(s[z].toNat:Int):=(by simpa using o8);have n2:yd.toNat<s[z].toNat:=(by simpa using n7);clear Ds o8 n7;exact Qx);·have n1:(s[z].toNat:Int)<48:=(by simpa using o8);clear Ds o8 n7;exact Qx);·clear Ds o8 n7;exact Qx
def CG(s:ByteArray)(b:Nat)(w:World)(hd:Dir w b)(hs:s.size<=maxLen):
 Calls prog 97 #[.map (some b),.string s] w (rV (Gs.find s.data.toList) w):=by
 have Fu:=λo:Obj=>rU (w.alloc o) b (hd.alloc o) s hs
 have HF:=B0 (Gs.find.eq_1 s.data.toList);cases hg:Gs.get Gs.dir s.data.toList with
 |some r=>rw[hg]at HF;simp only[hg,B7,Option.isSome_some,ZI]at Fu;obtain⟨ra,rb,rc,rd⟩:=r;dsimp only at Fu HF;have k7:1<=s.size:=(by rcases OZ s.size with h|h;(·have By:s.data.toList=[]:=U3 WH;rw[By,rW]at hg;simp at hg);·exact h);by_cases h0:rd=0;(·rw[G0 h0]at HF;have HR:=HF;generalize Gs.find s.data.toList=res at*;subst h0;clear HF hg hd;go_enter func97,ntmps97;go_wp2;refine N4 (v:=.tuple #[.agg #[.int .i64 ra,.int .i64 rb,.int .i64 rc,.int .u8 0],.bool true]) CH rfl ⟨by rw[HR.out];rfl,Xf⟩);·rw[D0 h0]at HF;rw[HF.out];exact rX s b w hd hs ra rb rc rd true Fu (.inr h0) k7
 |none=>rw[hg]at HF;simp only[hg,B7,Option.isSome_none,ZI]at Fu;by_cases h0:s.data.toList=[];(·rw[G0 h0]at HF;have HR:=HF;generalize Gs.find s.data.toList=res at*;have IC:s=⟨#[]⟩:=Zi h0;subst IC;clear HF hg hd h0;go_enter func97,ntmps97;exact aA);·rw[D0 h0]at HF;rw[HF.out];exact rX s b w hd hs 0 0 0 0 false Fu (.inl rfl) (by rcases OZ s.size with h|h;exact absurd (U3 WH) h0;exact h)
end
end Go.Proofs.Enc
