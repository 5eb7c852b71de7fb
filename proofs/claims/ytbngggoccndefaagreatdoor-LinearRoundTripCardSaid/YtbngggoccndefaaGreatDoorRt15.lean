/-
  Laid.
-/
import Derived.Test.YtbngggoccndefaaGreatDoorRt14
set_option maxHeartbeats 8000000
set_option maxRecDepth 100000
set_option linter.all false
namespace Go.Proofs.YtbngggoccndefaaGreatDoor
open Go.Proofs.Tryz
section
open Go.RowKit Go.WideMaps Go.Maps
def W5:Option Gs.Rule->Value
 |some r=>Z4 r
 |none=>Z4 (0,0,0,0)
def Gs.find2 (l:List UInt8):Option Gs.Rule:=match Gs.get Gs.dir (l.take (l.length-1))with
 |some r=>if r.2.2.2=0∨l.getD (l.length-1) 0<48∨r.2.2.2<l.getD (l.length-1) 0 then none else some r
 |none=>none
def Gs.find (l:List UInt8):Option Gs.Rule:=match Gs.get Gs.dir l with
 |some r=>if r.2.2.2=0 then some r else Gs.find2 l
 |none=>if l=[]then none else Gs.find2 l
abbrev Dir (w:World) (b:Nat):Prop:=w.ownsMap prog 9 A7 b 200 (Gs.tabOf Gs.dir)
theorem Dir.ext {w w':World} {b:Nat} (h:Dir w b) (hx:Ext w w'):Dir w' b:=h.kept hx.asGrown L0
theorem dK (w:World):(zeroValue 138).run prog w=.ok (Z4 (0,0,0,0)) w:=Y0
theorem qA (w:World) (b:Nat) (h:Dir w b) (s:ByteArray) (hs:s.size<=maxLen):
 (Instr.lookup 78 (.map (some b)) (.string s) true).run prog w=.ok (.tuple #[W5 (Gs.get Gs.dir s.data.toList),.bool (Gs.get Gs.dir s.data.toList).isSome]) w:=by
 obtain⟨v,ps,hrun,hv⟩:=h.look_ok (string_keyed (P:=prog) underlying9) underlying78 (dK w) (RU (0,0,0,0)) (keyOf_string_mk underlying9 hs)
 obtain⟨t1,t2⟩:=dH Gs.dir s.data.toList
 rw[hrun,t1]
 cases hg:Gs.get Gs.dir s.data.toList with
 |none=>rw[hg]at t1;rw[atKey_of_not_has t1]at hv;rw[AX hv];rfl
 |some r=>rw[t2 _ r hg]at hv;rw[AX hv];rfl
theorem RY (r:Gs.Rule) (w:World):
 Calls prog 116 #[Z4 r] w fun e w'=>e=.returned (.bool (r.2.1==r.2.2.1))∧Ext w w':=by
 obtain⟨a,b,c,d⟩:=r
 unfold Z4
 dsimp only
 go_enter func116,ntmps116
 go_wp2
 go_ret
 exact⟨rfl,Xe⟩
def qB (r:Option Gs.Rule) (w:World) (e:Ending) (w':World):Prop:=e=.returned (.tuple #[W5 r,.bool r.isSome])∧Ext w w'
theorem dL (s:ByteArray) (i:Nat) (h:i<s.size):s.data.toList.getD i 0=s[i]:=Q6
theorem qC:Gs.get Gs.dir []=none:=Y1
theorem RZ (a b:UInt8):(a<b)=(a.toNat<b.toNat):=rfl
theorem qD (s:ByteArray) (b:Nat) (w:World) (hd:Dir w b) (hs:s.size<=maxLen) (ra rb rc:Int) (rd:UInt8) (ok:Bool)
 (hlk:∀o:Obj,(Instr.lookup 78 (.map (some b)) (.string s) true).run prog (w.alloc o)=.ok (.tuple #[.agg #[.int .i64 ra,.int .i64 rb,.int .i64 rc,.int .u8 (rd.toNat:Int)],.bool ok]) (w.alloc o))
 (hok:ok=false∨rd≠0) (hne:1<=s.size):
 Calls prog 97 #[.map (some b),.string s] w (qB (Gs.find2 s.data.toList) w):=by
 obtain⟨z,hz⟩:∃z,z=s.size-1:=⟨_,rfl⟩
 have hzi:(s.size:Int)-1=(z:Int):=by omega
 have hzs:z<s.size:=by omega
 have HL2:=B0 (fun o:Obj=>qA (w.alloc o) b (hd.alloc o) (s.extract 0 z) Y8)
 rw[Zz]at HL2
 have HF:=B0 (Gs.find2.eq_1 s.data.toList)
 rw[Za,<-hz,dL s z hzs]at HF
 have hpe:s.toList.isEmpty=false:=by rw[G2,UC];exact KA
 have hpz:¬s.toList=[]:=by rw[G2];exact KA
 have hmx:maxLen=9223372036854775807:=rfl
 rw[hmx]at hs
 have dr:ok=true->((rd.toNat:Int)==0)=false:=fun h=>by rcases hok with h1|h1;(·rw[h1]at h;exact Bool.noConfusion h);·rw[V0];intro e;exact h1 (O7.1 (by simpa using e))
 generalize Gs.find2 s.data.toList=res at*
 have hlk2:=HL2.out
 clear HL2 hz hok hmx hd
 cases hg:Gs.get Gs.dir (s.data.toList.take z)with
 |none=>rw[hg]at HF;simp only[hg,W5,Option.isSome_none,Z4]at hlk2;have HR:Hid (res=none):=B0 HF.out;clear HF hg;have hlk3:∀o:Obj,(Instr.lookup 78 (.map (some b)) (.string (s.extract 0 z)) true).run prog (w.alloc o)=.ok (.tuple #[.agg #[.int .i64 0,.int .i64 0,.int .i64 0,.int .u8 0],.bool false]) (w.alloc o):=hlk2;clear hlk2;exact Qn
 |some r=>rw[hg]at HF;obtain⟨ya,yb,yc,yd⟩:=r;simp only[hg,W5,Option.isSome_some,Z4]at hlk2;dsimp only at HF;clear hg;obtain⟨b0,hb0⟩:∃b0,((yd.toNat:Int)==0)=b0:=⟨_,rfl⟩;obtain⟨b1,hb1⟩:∃b1,decide ((s[z].toNat:Int)<48)=b1:=⟨_,rfl⟩;obtain⟨b2,hb2⟩:∃b2,decide ((yd.toNat:Int)<(s[z].toNat:Int))=b2:=⟨_,rfl⟩;have HC:Hid ((yd=0∨s[z]<48∨yd<s[z])↔(b0 || (b1 || b2))=true):=B0 (by rw[<-hb0,<-hb1,<-hb2,F8,F8,C2,V1,V1,RZ,RZ];have e0:yd=0↔(yd.toNat:Int)=0:=⟨fun h=>by rw[h];rfl,fun h=>O7.1 A6⟩;rw[e0,show(48:UInt8).toNat=48 from rfl];omega);cases hbb:(b0 || (b1 || b2));(·rw[D0 (by rw[HC.out,hbb];exact Bool.noConfusion)]at HF;have HR:=HF;obtain⟨rfl,rfl,rfl⟩:b0=false∧b1=false∧b2=false:=(by cases b0<;>cases b1<;>cases b2<;>first|exact⟨rfl,rfl,rfl⟩|exact absurd hbb Bool.noConfusion);have n1:(48:Int)<=(s[z].toNat:Int):=(by simpa using hb1);have n2:s[z].toNat<=yd.toNat:=(by simpa using hb2);clear HC hbb hb1 hb2;cases ok;(·exact qE);·have dr1:=dr rfl;exact qE);·rw[G0 (by rw[HC.out,hbb])]at HF;have HR:=HF;clear HC;cases b0;(·cases b1;(·obtain rfl:b2=true:=(by simpa using hbb);have n1:(48:Int)<=(s[z].toNat:Int):=(by simpa using hb1);have n2:yd.toNat<s[z].toNat:=(by simpa using hb2);clear hbb hb1 hb2;exact Qn);·have n1:(s[z].toNat:Int)<48:=(by simpa using hb1);clear hbb hb1 hb2;exact Qn);·clear hbb hb1 hb2;exact Qn
theorem KC (s:ByteArray) (b:Nat) (w:World) (hd:Dir w b) (hs:s.size<=maxLen):
 Calls prog 97 #[.map (some b),.string s] w (qB (Gs.find s.data.toList) w):=by
 have hlk:=fun o:Obj=>qA (w.alloc o) b (hd.alloc o) s hs
 have HF:=B0 (Gs.find.eq_1 s.data.toList)
 cases hg:Gs.get Gs.dir s.data.toList with
 |some r=>rw[hg]at HF;simp only[hg,W5,Option.isSome_some,Z4]at hlk;obtain⟨ra,rb,rc,rd⟩:=r;dsimp only at hlk HF;have hne:1<=s.size:=(by rcases NO s.size with h|h;(·have hnil:s.data.toList=[]:=V2 VD;rw[hnil,qC]at hg;simp at hg);·exact h);by_cases h0:rd=0;(·rw[G0 h0]at HF;have HR:=HF;generalize Gs.find s.data.toList=res at*;subst h0;clear HF hg hd;go_enter func97,ntmps97;go_wp2;refine A4 (v:=.tuple #[.agg #[.int .i64 ra,.int .i64 rb,.int .i64 rc,.int .u8 0],.bool true]) KD rfl ⟨by rw[HR.out];rfl,Xf⟩);·rw[D0 h0]at HF;rw[HF.out];exact qD s b w hd hs ra rb rc rd true hlk (.inr h0) hne
 |none=>rw[hg]at HF;simp only[hg,W5,Option.isSome_none,Z4]at hlk;by_cases h0:s.data.toList=[];(·rw[G0 h0]at HF;have HR:=HF;generalize Gs.find s.data.toList=res at*;have hs0:s=⟨#[]⟩:=Z7 h0;subst hs0;clear HF hg hd h0;go_enter func97,ntmps97;exact qF);·rw[D0 h0]at HF;rw[HF.out];exact qD s b w hd hs 0 0 0 0 false hlk (.inl rfl) (by rcases NO s.size with h|h;exact absurd (V2 VD) h0;exact h)
end
end Go.Proofs.YtbngggoccndefaaGreatDoor
