/- Walks and laws for TopPages. -/
import Derived.Test.YtedefgjfgdcfdaaGreatDoorQ01
import Derived.Laws.BitsLemmas
import Derived.Laws.Bits64
import Derived.Laws.Bits64b
import Derived.Laws.ShiftsVar
import Derived.Laws.ShiftsVarLaws
namespace Go.Proofs.YtedefgjfgdcfdaaGreatDoor
open Go.RowKit Go.Proofs.Tryz
set_option maxRecDepth 100000
set_option maxHeartbeats 4000000
def iQ(i o:Int)(f l:Bool):Bool:=(l && (decide (1<=o) && (decide (o<=16) && (decide (0<=i) && decide (i<=o)))))||(decide (i=0) && (decide (o=0) && (!f && !l)))
def jQ(i o:Int)(f l:Bool):Int:=i+256*o+(if f=true then 65536 else 0)+(if l=true then 131072 else 0)
def eM(i o:Int)(f l:Bool):Int × Int:=if iQ i o f l=true then(jQ i o f l,0) else(0,2)
theorem Ki(i o:Int)(f l:Bool):iQ i o f l=true↔(l=true/\1<=o/\o<=16/\0<=i/\i<=o)\/(i=0/\o=0/\f=false/\l=false):=by
 unfold iQ;cases f<;>cases l<;>simp
theorem DC{i o:Int}{f l:Bool}(h:iQ i o f l=true):0<=i/\i<=o/\0<=o/\o<=16:=by
 rcases (Ki i o f l).1 h with h|h<;>omega
theorem zo{i o:Int}{f l:Bool}(h:iQ i o f l=true):0<=jQ i o f l/\jQ i o f l<262144:=by
 have:=DC h;unfold jQ;cases f<;>cases l<;>simp<;>omega
structure Cnt where
 i:Int
 o:Int
 f:Bool
 l:Bool
 deriving DecidableEq
def yr:Cnt:=⟨0,0,false,false⟩
def fI(w:Int):Int:=w % 256
def fO(w:Int):Int:=w / 256 % 256
def fF(w:Int):Bool:=decide (w / 65536 % 2=1)
def fL(w:Int):Bool:=decide (w / 131072 % 2=1)
def cntF(w:Int):Cnt × Bool:=if w<262144/\iQ (fI w) (fO w) (fF w) (fL w)=true then(⟨fI w,fO w,fF w,fL w⟩,true) else(yr,false)
def o8(s i:Int):Bool:=decide (s= -1/\i= -1)||decide (0<=s/\s<32/\ -1<=i/\i<16)
def gR(s i:Int):Int × Int:=if o8 s i=true then((s+1)*64+(i+1),0) else(0,2)
def pP(s n:Int):Bool:=decide (s= -1/\n=0)||decide (0<=s/\s<32/\1<=n/\n<=63)
def jR(s n:Int):Int × Int:=if pP s n=true then(n*64+(s+1),0) else(0,2)
theorem CJ(s i:Int):o8 s i=true↔(s= -1/\i= -1)\/(0<=s/\s<32/\ -1<=i/\i<16):=by simp [o8]
theorem DM(s n:Int):pP s n=true↔(s= -1/\n=0)\/(0<=s/\s<32/\1<=n/\n<=63):=by simp [pP]
def jI(w:Int):Int × Int × Bool:=if w<4096/\o8 (w / 64-1) (w % 64-1)=true then(w / 64-1,w % 64-1,true) else(-1,-1,false)
def fQ(w:Int):Int × Int × Bool:=if w<4096/\pP (w % 64-1) (w / 64)=true then(w % 64-1,w / 64,true) else(-1,0,false)
def zE(x:Nat):Nat:=x % 9223372036854775808*2+x / 9223372036854775808
def uv:Nat->Nat->Nat
 |0,x=>x
 |n+1,x=>zE (uv n x)
def lT(s x:Nat):Nat:=x % 2 ^ (64-s)*2 ^ s+x / 2 ^ (64-s)
theorem aaV{p m x:Nat}(hp:0<p)(hm:0<m)(hpm:p*m=9223372036854775808)(hx:x<18446744073709551616):
  (x % (m*2)*p+x / (m*2))<18446744073709551616/\zE (x % (m*2)*p+x / (m*2))=x % m*(p*2)+x / m:=by
 obtain⟨q,hq⟩:∃q,x / (m*2)=q:=⟨_,R⟩;obtain⟨r,hr⟩:=Xq (x % (m*2));obtain⟨b,hb⟩:∃b,r / m=b:=⟨_,R⟩;obtain⟨t,ht⟩:=Xq (r % m);have e1:m*2*q+r=x:=by rw [<-hq,<-hr];exact XEB x (m*2)
 have e2:m*b+t=r:=by rw [<-hb,<-ht];exact XEB r m
 have lr:r<m*2:=by rw [<-hr];exact XAj _ qd
 have lt:t<m:=by rw [<-ht];exact XAj _ hm
 have lb:b<2:=by rw [<-hb];exact Nat.div_lt_of_lt_mul qd
 have lq:q<p:=by
  rcases XAc q p with h|h
  .exact h
  .have h1:m*2*p<=m*2*q:=Nat.mul_le_mul_left _ h;have h2:m*2*p=p*m*2:=by rw [XBL (m*2) p,Nat.mul_assoc]
   omega
 have k1:x / m=2*q+b:=by have:x=m*(2*q+b)+t:=qhc;rw [this,Nat.mul_add_div hm,XEC lt,XB5]
 have k2:x % m=t:=by have:x=m*(2*q+b)+t:=qhc;rw [this,Nat.mul_add_mod,XCn lt]
 have k3:r*p=b*9223372036854775808+t*p:=by rw [<-e2,Nat.add_mul,XBL m b,Nat.mul_assoc,XBL m p,hpm]
 have k4:t*p+p<=9223372036854775808:=by have:(t+1)*p<=m*p:=XED p lt;rw [XBL m p,hpm,Nat.add_mul,Nat.one_mul] at this;exact this
 have k5:t*(p*2)=t*p*2:=by rw [Nat.mul_assoc]
 rw [hq,hr,k1,k2,k3,k5];unfold zE;constructor
 .omega
 .omega
theorem Z1{s:Nat}(hs:s<64):2 ^ s*2 ^ (63-s)=9223372036854775808:=by
 rw [<-Nat.pow_add,show s+(63-s)=63 from qd]
theorem aaU{s x:Nat}(hs:s<64)(hx:x<18446744073709551616):lT s x<18446744073709551616/\zE (lT s x)=lT (s+1) x:=by
 have h:=aaV (p:=2 ^ s) (m:=2 ^ (63-s)) (x:=x) (XCo _) (XCo _) (Z1 hs) hx;unfold lT;rw [show 64-s=63-s+1 from qd,show 64-(s+1)=63-s from qd,XCp,XCp];exact h
theorem Lk{x:Nat}(hx:x<18446744073709551616):lT 0 x=x:=by
 have e:(2:Nat) ^ (64-0)=18446744073709551616:=qf;unfold lT;rw [e,XCn hx,XEC hx];omega
theorem aaT(x:Nat):lT 64 x=x:=by
 unfold lT;rw [XDL,Nat.pow_zero,Nat.mod_one,Nat.div_one,Nat.zero_mul,XAV]
theorem Ll{x:Nat}(hx:x<18446744073709551616):∀n,uv n x=lT (n % 64) x
 |0=>by rw [uv,XDM,Lk hx]
 |n+1=>by
  have hl:n % 64<64:=XAj _ qf;rw [uv,Ll hx n,(aaU hl hx).2];rcases XAc (n % 64+1) 64 with h|h
  .rw [show(n+1) % 64=n % 64+1 from qd]
  .rw [show n % 64+1=64 from qd,show(n+1) % 64=0 from qd,aaT,Lk hx]
def lV(key at':Nat):Nat:=(uv (5*at') key+at'*2654435769) % 18446744073709551616
theorem Ad(key at':Nat):lV key at'<18446744073709551616:=XAj _ qf
def kQ(n key at':Nat):Nat:=n ^^^ lV key at'
theorem acr{a b:Nat}(ha:a<18446744073709551616)(hb:b<18446744073709551616):a ^^^ b<18446744073709551616:=Nat.xor_lt_two_pow (n:=64) ha hb
theorem I9{n:Nat}(h:n<18446744073709551616)(key at':Nat):kQ n key at'<18446744073709551616:=acr h (Ad _ _)
def DH(n:Int):Bool:=decide (-1<=n/\n<16)
def okA(i:Int):Bool:=decide (0<=i/\i<16)
def gT(n:Int)(key:Nat)(i:Int):Int × Int:=if DH n=true/\okA i=true then((kQ (n+1).toNat key i.toNat:Nat),0) else(0,2)
def jq(w key:Nat)(i:Int):Int × Bool:=if okA i=true/\kQ w key i.toNat<=16 then((kQ w key i.toNat:Nat)-1,true) else(0,false)
theorem DI(n:Int):DH n=true↔ -1<=n/\n<16:=by simp [DH]
theorem zg(i:Int):okA i=true↔0<=i/\i<16:=by simp [okA]
theorem T9(b:Bool)(n:Int)(w:World):Z 342 #[.bool b,J n] w λe w'=>e=.returned (J (if b=true then n else 0))/\w'=w:=by
 cases b;all_goals
  go_enter func342,ntmps342;go_wp2;go_ret;exact⟨R,R⟩
theorem aau(s:Int)(w:World):Z 351 #[I s] w λe w'=>e=.returned (.bool (decide (0<=s/\s<32)))/\w'=w:=by
 by_cases h0:0<=s<;>by_cases h1:s<32;all_goals
  go_enter func351,ntmps351;go_wp2;go_ret;exact⟨by simp [h0,h1],R⟩
theorem Y3(i o:Int)(f l:Bool)(w:World):Z 341 #[.agg #[I i,I o,.bool f,.bool l]] w λe w'=>
  e=.returned (.bool (iQ i o f l))/\Below w w w':=by
 cases f<;>cases l;all_goals
  go_enter func341,ntmps341;go_wp2;all_goals
   go_ret;refine⟨Lj ?_,qa⟩;first|(simp [iQ];done)|(simp [iQ];omega)|(rw [XBM];simp [iQ];done)|(rw [XBM];simp [iQ];omega)
theorem zf(i o:Int)(f l m:Bool)(h:iQ i o f l=m)(w:World):Z 341 #[.agg #[I i,I o,.bool f,.bool l]] w λe w'=>
  e=.returned (.bool m)/\Below w w w':=h ▸ Y3 i o f l w
theorem T_(b:Bool)(n:Int)(w:World):Z 342 #[.bool b,J n] w λe w'=>e=.returned (J (if b=true then n else 0))/\Below w w w':=by
 refine(T9 b n w).mono ?_;rintro e w' ⟨rfl,rfl⟩;exact⟨R,XAC _ _⟩
theorem ZO{i o:Int}{f l:Bool}(h0:0<=i)(h1:i<=16)(h2:0<=o)(h3:o<=16):
  bits .or .u64 (bits .or .u64 (bits .or .u64 i (o*256)) (if f=true then 65536 else 0)) (if l=true then 131072 else 0)=jQ i o f l:=by
 obtain⟨n,rfl⟩:=XAb h0;obtain⟨m,rfl⟩:=XAb h2;have key:∀(n m:Fin 17)(f l:Bool),bits .or .u64 (bits .or .u64 (bits .or .u64 (n.val:Int) ((m.val:Int)*256)) (if f=true then 65536 else 0)) (if l=true then 131072 else 0)=jQ (n.val:Int) (m.val:Int) f l:=qco
 exact key ⟨n,qd⟩ ⟨m,qd⟩ f l
theorem ZQ(i o:Int)(f l:Bool)(w:World):Z 297 #[.agg #[I i,I o,.bool f,.bool l]] w λe w'=>
  e=.returned (.tuple #[J (eM i o f l).1,I (eM i o f l).2])/\Below w w w':=by
 cases hm:iQ i o f l
 .rw [show eM i o f l=(0,2) by unfold eM;rw [hm];rfl];have HM:=XAA hm;clear hm;go_enter func297,ntmps297;go_wp2_with (first|(go_at_call 341;refine(zf _ _ _ _ _ HM.out _).mono ?_;rintro e w1 ⟨rfl,hb1⟩;have p1:=(ak.new w 364 _).below hb1;have n1:=p1.lt;have c1:=p1.cell));have z1:=hb1.size;rw [XAT] at z1
  go_ret2
  exact⟨R,qa⟩
 .rw [show eM i o f l=(jQ i o f l,0) by unfold eM;rw [hm];rfl];obtain⟨b1,b2,b3,b4⟩:=DC hm;have hbit:=ZO (f:=f) (l:=l) b1 qd b3 b4;obtain⟨v,hv⟩:=Xq (jQ i o f l);rw [hv] at hbit ⊢;have HV:=XAA hbit;have HM:=XAA hm;clear hm hbit hv;cases f<;>cases l;all_goals
   go_enter func297,ntmps297;go_wp2_with (first|(go_at_call 341;refine(zf _ _ _ _ _ HM.out _).mono ?_;rintro e w1 ⟨rfl,hb1⟩;have p1:=(ak.new w 364 _).below hb1;have n1:=p1.lt;have c1:=p1.cell;have d1:=p1.frozen));have z1:=hb1.size;rw [XAT] at z1;obtain⟨w2,rfl⟩:∃w2,w2=w1:=⟨_,rfl⟩;(refine ba (w.heap.size+1) (λhxc aA hxh hxn=>?_);(repeat (go_big_quiet_step ((go_at_call 342;exact dy (T_ _ _ _)))));refine XAG ?_;clear hxc aA hxh hxn;intro w1 hb1 hz1 hc1 hf1);have hv:=HV.out;simp only [Bool.false_eq_true,if_true,if_false] at hv;rw [hv];clear HV HM hv;go_wp2
   go_ret2
   exact⟨R,qa⟩
theorem wJ(i o:Int)(f l:Bool)(v e:Int)(h:eM i o f l=(v,e))(w:World):Z 297 #[.agg #[I i,I o,.bool f,.bool l]] w λr w'=>
  r=.returned (.tuple #[J v,I e])/\Below w w w':=by
 have:=ZQ i o f l w;rw [h] at this;exact this
theorem F_{w:Int}(n:Nat)(hn:n<=60)(h0:0<=w)(h1:w<18446744073709551616):bits .and .u64 w ((2 ^ n-1:Nat):Int)=w % ((2 ^ n:Nat):Int):=by
 obtain⟨m,rfl⟩:=XAb h0;have hp:2 ^ n<=2 ^ 60:=XER qd hn;have hp':(2:Nat) ^ 60=1152921504606846976:=qf
 have hq:0<2 ^ n:=XCo n;rw [bits_and_u64_nat m (2 ^ n-1) qd qd,Nat.and_two_pow_sub_one_eq_mod,XES]
theorem FY{w:Int}(h0:0<=w)(h1:w<18446744073709551616):bits .and .u64 w 255=w % 256:=F_ 8 qd h0 h1
theorem FZ{w:Int}(h0:0<=w)(h1:w<18446744073709551616):bits .and .u64 w 63=w % 64:=F_ 6 qd h0 h1
theorem F8{w:Int}(n:Nat)(hn:n<=60)(h0:0<=w)(h1:w<18446744073709551616):bits .and .u64 w ((2 ^ n:Nat):Int)=w / ((2 ^ n:Nat):Int) % 2*((2 ^ n:Nat):Int):=by
 obtain⟨m,rfl⟩:=XAb h0;have hp:2 ^ n<=2 ^ 60:=XER qd hn;have hp':(2:Nat) ^ 60=1152921504606846976:=qf
 rw [bits_and_u64_nat m (2 ^ n) qd qd];rw [nat_bit];simp
theorem PA{w:Int}(h0:0<=w)(h1:w<18446744073709551616):bits .and .u64 w 65536=w / 65536 % 2*65536:=F8 16 qd h0 h1
theorem PB{w:Int}(h0:0<=w)(h1:w<18446744073709551616):bits .and .u64 w 131072=w / 131072 % 2*131072:=F8 17 qd h0 h1
theorem P_{w:Int}(h0:0<=w)(h1:w<18446744073709551616):(bits .and .u64 w 65536 !=0)=fF w:=by
 rw [PA h0 h1,fF,XBM,XBP,XET];omega
theorem Qa{w:Int}(h0:0<=w)(h1:w<18446744073709551616):(bits .and .u64 w 131072 !=0)=fL w:=by
 rw [PB h0 h1,fL,XBM,XBP,XET];omega
theorem VV{s i:Int}(h0:0<=s)(h1:s<32)(h2: -1<=i)(h3:i<63):bits .or .u64 ((s+1)*64) (i+1)=(s+1)*64+(i+1):=by
 obtain⟨n,hn⟩:=XAb (show 0<=s+1 from qd);obtain⟨m,hm⟩:=XAb (show 0<=i+1 from qd);have key:∀(n:Fin 33)(m:Fin 64),bits .or .u64 ((n.val:Int)*64) (m.val:Int)=(n.val:Int)*64+(m.val:Int):=qco
 rw [hn,hm];exact key ⟨n,qd⟩ ⟨m,qd⟩
theorem ZS{s n:Int}(h0:0<=s)(h1:s<32)(h2:1<=n)(h3:n<=63):bits .or .u64 (n*64) (s+1)=n*64+(s+1):=by
 obtain⟨k,hk⟩:=XAb (show 0<=s+1 from qd);obtain⟨m,hm⟩:=XAb (show 0<=n from qd);have key:∀(n:Fin 64)(m:Fin 33),bits .or .u64 ((n.val:Int)*64) (m.val:Int)=(n.val:Int)*64+(m.val:Int):=qco
 rw [hk,hm];exact key ⟨m,qd⟩ ⟨k,qd⟩
theorem pS(s:Int)(m:Bool)(h:decide (0<=s/\s<32)=m)(w:World):Z 351 #[I s] w λe w'=>e=.returned (.bool m)/\w'=w:=h ▸ aau s w
theorem VX(s i:Int)(w:World):Z 305 #[I s,I i] w λe w'=>e=.returned (.tuple #[J (gR s i).1,I (gR s i).2])/\w'=w:=by
 by_cases h1:s= -1/\i= -1
 .obtain⟨rfl,rfl⟩:=h1;go_enter func305,ntmps305;go_wp2
  go_ret2
  exact⟨R,R⟩
 .by_cases h2:0<=s/\s<32/\ -1<=i/\i<16
  .rw [show gR s i=((s+1)*64+(i+1),0) by unfold gR;rw [XAE ((CJ s i).2 (Or.inr h2))]];obtain⟨k1,k2,k3,k4⟩:=h2;have HB:=XAA (VV k1 k2 k3 qd);have HM:=XAA (show decide (0<=s/\s<32)=true from qj);have hs:(s== -1)=false:=by rw [XAf];omega
   clear h1;go_enter func305,ntmps305;go_wp2_with (first|(go_at_call 351;refine(pS _ _ HM.out _).mono ?_;rintro e w1 ⟨rfl,rfl⟩))
   go_ret2
   exact⟨by rw [<-HB.out];rfl,R⟩
  .rw [show gR s i=(0,2) by unfold gR;rw [XAD (by rw [CJ];omega)]];by_cases h3:0<=s/\s<32
   .have HM:=XAA (show decide (0<=s/\s<32)=true from qj);have hs:(s== -1)=false:=by rw [XAf];omega
    obtain⟨k1,k2⟩:=h3;have k3:i< -1\/16<=i:=qd
    clear h1 h2;rcases k3 with k3|k3
    all_goals
     go_enter func305,ntmps305;go_wp2_with (first|(go_at_call 351;refine(pS _ _ HM.out _).mono ?_;rintro e w1 ⟨rfl,rfl⟩))
     go_ret2
     exact⟨R,R⟩
   .have HM:=XAA (show decide (0<=s/\s<32)=false from qj);clear h2 h3;by_cases hs:s= -1
    .have hi:(i== -1)=false:=by rw [XAf];exact λh=>h1 ⟨hs,h⟩
     subst hs;clear h1;go_enter func305,ntmps305;go_wp2_with (first|(go_at_call 351;refine(pS _ _ HM.out _).mono ?_;rintro e w1 ⟨rfl,rfl⟩))
     go_ret2
     exact⟨R,R⟩
    .have hs':(s== -1)=false:=by rw [XAf];exact hs
     clear h1;go_enter func305,ntmps305;go_wp2_with (first|(go_at_call 351;refine(pS _ _ HM.out _).mono ?_;rintro e w1 ⟨rfl,rfl⟩))
     go_ret2
     exact⟨R,R⟩
theorem ZV(s n:Int)(w:World):Z 318 #[I s,I n] w λe w'=>e=.returned (.tuple #[J (jR s n).1,I (jR s n).2])/\w'=w:=by
 by_cases h1:s= -1/\n=0
 .obtain⟨rfl,rfl⟩:=h1;go_enter func318,ntmps318;go_wp2
  go_ret2
  exact⟨R,R⟩
 .by_cases h2:0<=s/\s<32/\1<=n/\n<=63
  .rw [show jR s n=(n*64+(s+1),0) by unfold jR;rw [XAE ((DM s n).2 (Or.inr h2))]];obtain⟨k1,k2,k3,k4⟩:=h2;have HB:=XAA (ZS k1 k2 k3 k4);have HM:=XAA (show decide (0<=s/\s<32)=true from qj);have hs:(s== -1)=false:=by rw [XAf];omega
   clear h1;go_enter func318,ntmps318;go_wp2_with (first|(go_at_call 351;refine(pS _ _ HM.out _).mono ?_;rintro e w1 ⟨rfl,rfl⟩))
   go_ret2
   exact⟨by rw [<-HB.out];rfl,R⟩
  .rw [show jR s n=(0,2) by unfold jR;rw [XAD (by rw [DM];omega)]];by_cases h3:0<=s/\s<32
   .have HM:=XAA (show decide (0<=s/\s<32)=true from qj);have hs:(s== -1)=false:=by rw [XAf];omega
    obtain⟨k1,k2⟩:=h3;have k3:n<1\/63<n:=qd
    clear h1 h2;rcases k3 with k3|k3
    all_goals
     go_enter func318,ntmps318;go_wp2_with (first|(go_at_call 351;refine(pS _ _ HM.out _).mono ?_;rintro e w1 ⟨rfl,rfl⟩))
     go_ret2
     exact⟨R,R⟩
   .have HM:=XAA (show decide (0<=s/\s<32)=false from qj);clear h2 h3;by_cases hs:s= -1
    .have hi:(n==0)=false:=by rw [XAf];exact λh=>h1 ⟨hs,h⟩
     subst hs;clear h1;go_enter func318,ntmps318;go_wp2_with (first|(go_at_call 351;refine(pS _ _ HM.out _).mono ?_;rintro e w1 ⟨rfl,rfl⟩))
     go_ret2
     exact⟨R,R⟩
    .have hs':(s== -1)=false:=by rw [XAf];exact hs
     clear h1;go_enter func318,ntmps318;go_wp2_with (first|(go_at_call 351;refine(pS _ _ HM.out _).mono ?_;rintro e w1 ⟨rfl,rfl⟩))
     go_ret2
     exact⟨R,R⟩
theorem vO(s i v e:Int)(h:gR s i=(v,e))(w:World):Z 305 #[I s,I i] w λr w'=>r=.returned (.tuple #[J v,I e])/\w'=w:=by
 have:=VX s i w;rw [h] at this;exact this
theorem DN(s i v e:Int)(h:jR s i=(v,e))(w:World):Z 318 #[I s,I i] w λr w'=>r=.returned (.tuple #[J v,I e])/\w'=w:=by
 have:=ZV s i w;rw [h] at this;exact this
theorem VU(s i:Int)(w:World):Z 354 #[I s,I i] w λe w'=>e=.returned (.bool (o8 s i))/\w'=w:=by
 rcases hx:gR s i with⟨v,e⟩;have HX:=XAA hx;cases hk:o8 s i
 .have he:e=2:=by unfold gR at hx;rw [hk,XAD XCX] at hx;injection hx with _ h;exact h.symm
  subst he;clear hx hk;go_enter func354,ntmps354;go_wp2_with (first|(go_at_call 305;refine(vO _ _ _ _ HX.out _).mono ?_;rintro e w1 ⟨rfl,rfl⟩));go_ret;exact⟨R,R⟩
 .have he:e=0:=by unfold gR at hx;rw [hk,XAE rfl] at hx;injection hx with _ h;exact h.symm
  subst he;clear hx hk;go_enter func354,ntmps354;go_wp2_with (first|(go_at_call 305;refine(vO _ _ _ _ HX.out _).mono ?_;rintro e w1 ⟨rfl,rfl⟩));go_ret;exact⟨R,R⟩
theorem ZR(s i:Int)(w:World):Z 345 #[I i,I s] w λe w'=>e=.returned (.bool (pP s i))/\w'=w:=by
 rcases hx:jR s i with⟨v,e⟩;have HX:=XAA hx;cases hk:pP s i
 .have he:e=2:=by unfold jR at hx;rw [hk,XAD XCX] at hx;injection hx with _ h;exact h.symm
  subst he;clear hx hk;go_enter func345,ntmps345;go_wp2_with (first|(go_at_call 318;refine(DN _ _ _ _ HX.out _).mono ?_;rintro e w1 ⟨rfl,rfl⟩));go_ret;exact⟨R,R⟩
 .have he:e=0:=by unfold jR at hx;rw [hk,XAE rfl] at hx;injection hx with _ h;exact h.symm
  subst he;clear hx hk;go_enter func345,ntmps345;go_wp2_with (first|(go_at_call 318;refine(DN _ _ _ _ HX.out _).mono ?_;rintro e w1 ⟨rfl,rfl⟩));go_ret;exact⟨R,R⟩
theorem IW(s i:Int)(m:Bool)(h:o8 s i=m)(w:World):Z 354 #[I s,I i] w λe w'=>e=.returned (.bool m)/\w'=w:=h ▸ VU s i w
theorem KX(s i:Int)(m:Bool)(h:pP s i=m)(w:World):Z 345 #[I i,I s] w λe w'=>e=.returned (.bool m)/\w'=w:=h ▸ ZR s i w
theorem VW(x:Int)(h0:0<=x)(h1:x<18446744073709551616)(w:World):Z 322 #[J x] w λe w'=>
  e=.returned (.tuple #[I (jI x).1,I (jI x).2.1,.bool (jI x).2.2])/\w'=w:=by
 have e1:=FZ h0 h1;by_cases hw:x<4096
 .cases hk:o8 (x / 64-1) (x % 64-1)
  .rw [show jI x=(-1,-1,false) by unfold jI;rw [XAD (λh=>XCX (hk.symm.trans h.2))]];have HK:=XAA hk;clear hk;go_enter func322,ntmps322;go_wp2_with (first|(go_at_call 354;refine(IW _ _ _ HK.out _).mono ?_;rintro e w1 ⟨rfl,rfl⟩)|go_in);go_ret3;exact⟨R,R⟩
  .rw [show jI x=(x / 64-1,x % 64-1,true) by unfold jI;rw [XAE ⟨hw,hk⟩]];have HK:=XAA hk;clear hk;go_enter func322,ntmps322;go_wp2_with (first|(go_at_call 354;refine(IW _ _ _ HK.out _).mono ?_;rintro e w1 ⟨rfl,rfl⟩)|go_in);go_ret3;exact⟨R,R⟩
 .rw [show jI x=(-1,-1,false) by unfold jI;rw [XAD (λh=>hw h.1)]];go_enter func322,ntmps322;go_wp2_with (first|go_in);go_ret3;exact⟨R,R⟩
theorem ZU(x:Int)(h0:0<=x)(h1:x<18446744073709551616)(w:World):Z 299 #[J x] w λe w'=>
  e=.returned (.tuple #[I (fQ x).1,I (fQ x).2.1,.bool (fQ x).2.2])/\w'=w:=by
 have e1:=FZ h0 h1;by_cases hw:x<4096
 .cases hk:pP (x % 64-1) (x / 64)
  .rw [show fQ x=(-1,0,false) by unfold fQ;rw [XAD (λh=>XCX (hk.symm.trans h.2))]];have HK:=XAA hk;clear hk;go_enter func299,ntmps299;go_wp2_with (first|(go_at_call 345;refine(KX _ _ _ HK.out _).mono ?_;rintro e w1 ⟨rfl,rfl⟩)|go_in);go_ret3;exact⟨R,R⟩
  .rw [show fQ x=(x % 64-1,x / 64,true) by unfold fQ;rw [XAE ⟨hw,hk⟩]];have HK:=XAA hk;clear hk;go_enter func299,ntmps299;go_wp2_with (first|(go_at_call 345;refine(KX _ _ _ HK.out _).mono ?_;rintro e w1 ⟨rfl,rfl⟩)|go_in);go_ret3;exact⟨R,R⟩
 .rw [show fQ x=(-1,0,false) by unfold fQ;rw [XAD (λh=>hw h.1)]];go_enter func299,ntmps299;go_wp2_with (first|go_in);go_ret3;exact⟨R,R⟩
theorem IY(x s i:Int)(b:Bool)(h0:0<=x)(h1:x<18446744073709551616)(h:jI x=(s,i,b))(w:World):Z 322 #[J x] w λr w'=>
  r=.returned (.tuple #[I s,I i,.bool b])/\w'=w:=by
 have:=VW x h0 h1 w;rw [h] at this;exact this
theorem wK(x s i:Int)(b:Bool)(h0:0<=x)(h1:x<18446744073709551616)(h:fQ x=(s,i,b))(w:World):Z 299 #[J x] w λr w'=>
  r=.returned (.tuple #[I s,I i,.bool b])/\w'=w:=by
 have:=ZU x h0 h1 w;rw [h] at this;exact this
theorem Zq(i:Int)(w:World):Z 335 #[I i] w λe w'=>e=.returned (.bool (decide (0<=i/\i<16)))/\w'=w:=by
 by_cases h0:0<=i<;>by_cases h1:i<16;all_goals
  go_enter func335,ntmps335;go_wp2;go_ret;exact⟨by simp [h0,h1],R⟩
theorem mO(i:Int)(m:Bool)(h:decide (0<=i/\i<16)=m)(w:World):Z 335 #[I i] w λe w'=>e=.returned (.bool m)/\w'=w:=h ▸ Zq i w
theorem ZG(s p m:Nat)(hs:s<=64)(hp:p=2 ^ s)(hm:m=2 ^ (64-s)){key:Nat}(hk:key<18446744073709551616):
  bits .or .u64 (IntKind.u64.wrap ((key:Int)*(p:Int))) ((key:Int) / (m:Int))=((lT s key:Nat):Int):=by
 have hpm:p*m=18446744073709551616:=by rw [hp,hm,<-Nat.pow_add,show s+(64-s)=64 from qd]
 have hp0:0<p:=by rw [hp];exact XCo _
 have hm0:0<m:=by rw [hm];exact XCo _
 have h1:IntKind.u64.wrap ((key:Int)*(p:Int))=((key % m*p:Nat):Int):=by rw [XC0,show(18446744073709551616:Int)=((m*p:Nat):Int) by rw [XBL,hpm];rfl,<-XEU,<-XES,Nat.mul_mod_mul_right]
 have h2:((key:Int) / (m:Int))=((key / m:Nat):Int):=by rw [Int.natCast_ediv]
 have hq:key / m<p:=Nat.div_lt_of_lt_mul (by rw [XBL,hpm];exact hk);have hr:key % m*p<18446744073709551616:=by rw [<-hpm,XBL p m];exact Nat.mul_lt_mul_of_pos_right (XAj _ hm0) hp0
 have hq':key / m<18446744073709551616:=Nat.lt_of_le_of_lt (Nat.div_le_self _ _) hk;rw [h1,h2,bits_or_u64_nat _ _ hr hq'];unfold lT;rw [<-hm,<-hp,XBL (key % m) p]
 congr 1
 rw [hp] at hq ⊢;exact(XEt hq (key % m)).symm
theorem iT{key:Nat}(hk:key<18446744073709551616)(a s p m c:Nat)(hs:5*a % 64=s)(hp:p=2 ^ s)(hm:m=2 ^ (64-s))(hc:c=a*2654435769):
  IntKind.u64.wrap (bits .or .u64 (IntKind.u64.wrap ((key:Int)*(p:Int))) ((key:Int) / (m:Int))+(c:Int))=((lV key a:Nat):Int):=by
 have hs':s<64:=by rw [<-hs];exact XAj _ qf
 rw [ZG s p m qd hp hm hk,XC0];unfold lV;rw [Ll hk,hs,hc];omega
theorem abd{key:Nat}(hk:key<18446744073709551616):IntKind.u64.wrap (bits .or .u64 (key:Int) ((key:Int) / 18446744073709551616))=((lV key 0:Nat):Int):=by
 have h0:((key:Int) / 18446744073709551616)=((0:Nat):Int):=qd;rw [h0,bits_or_u64_nat key 0 hk qf,Nat.or_zero,XC0];unfold lV;rw [uv];omega
theorem iz{a b:Int}(h:a=b):Ending.returned (J a)=.returned (J b):=by rw [h]
theorem aaP(key:Nat)(hk:key<18446744073709551616)(a:Nat)(ha:a<16)(w:World):Z 336 #[J key,I a] w λe w'=>
  e=.returned (J (lV key a))/\w'=w:=by
 obtain rfl|rfl|rfl|rfl|rfl|rfl|rfl|rfl|rfl|rfl|rfl|rfl|rfl|rfl|rfl|rfl:a=0\/a=1\/a=2\/a=3\/a=4\/a=5\/a=6\/a=7\/a=8\/a=9\/a=10\/a=11\/a=12\/a=13\/a=14\/a=15:=qd
 .have e1:bits .and .u64 0 63=0:=by decide+kernel
  have HF:=XAA (abd hk);clear ha;go_enter func336,ntmps336;go_wp2_with (first|go_in);go_ret;exact⟨iz HF.out,R⟩
 .have e1:bits .and .u64 5 63=5:=by decide+kernel
  have HF:=XAA (iT hk 1 5 32 576460752303423488 2654435769 qf qf qf qf);clear ha;go_enter func336,ntmps336;go_wp2_with (first|go_in);go_ret;exact⟨iz HF.out,R⟩
 .have e1:bits .and .u64 10 63=10:=by decide+kernel
  have HF:=XAA (iT hk 2 10 1024 18014398509481984 5308871538 qf qf qf qf);clear ha;go_enter func336,ntmps336;go_wp2_with (first|go_in);go_ret;exact⟨iz HF.out,R⟩
 .have e1:bits .and .u64 15 63=15:=by decide+kernel
  have HF:=XAA (iT hk 3 15 32768 562949953421312 7963307307 qf qf qf qf);clear ha;go_enter func336,ntmps336;go_wp2_with (first|go_in);go_ret;exact⟨iz HF.out,R⟩
 .have e1:bits .and .u64 20 63=20:=by decide+kernel
  have HF:=XAA (iT hk 4 20 1048576 17592186044416 10617743076 qf qf qf qf);clear ha;go_enter func336,ntmps336;go_wp2_with (first|go_in);go_ret;exact⟨iz HF.out,R⟩
 .have e1:bits .and .u64 25 63=25:=by decide+kernel
  have HF:=XAA (iT hk 5 25 33554432 549755813888 13272178845 qf qf qf qf);clear ha;go_enter func336,ntmps336;go_wp2_with (first|go_in);go_ret;exact⟨iz HF.out,R⟩
 .have e1:bits .and .u64 30 63=30:=by decide+kernel
  have HF:=XAA (iT hk 6 30 1073741824 17179869184 15926614614 qf qf qf qf);clear ha;go_enter func336,ntmps336;go_wp2_with (first|go_in);go_ret;exact⟨iz HF.out,R⟩
 .have e1:bits .and .u64 35 63=35:=by decide+kernel
  have HF:=XAA (iT hk 7 35 34359738368 536870912 18581050383 qf qf qf qf);clear ha;go_enter func336,ntmps336;go_wp2_with (first|go_in);go_ret;exact⟨iz HF.out,R⟩
 .have e1:bits .and .u64 40 63=40:=by decide+kernel
  have HF:=XAA (iT hk 8 40 1099511627776 16777216 21235486152 qf qf qf qf);clear ha;go_enter func336,ntmps336;go_wp2_with (first|go_in);go_ret;exact⟨iz HF.out,R⟩
 .have e1:bits .and .u64 45 63=45:=by decide+kernel
  have HF:=XAA (iT hk 9 45 35184372088832 524288 23889921921 qf qf qf qf);clear ha;go_enter func336,ntmps336;go_wp2_with (first|go_in);go_ret;exact⟨iz HF.out,R⟩
 .have e1:bits .and .u64 50 63=50:=by decide+kernel
  have HF:=XAA (iT hk 10 50 1125899906842624 16384 26544357690 qf qf qf qf);clear ha;go_enter func336,ntmps336;go_wp2_with (first|go_in);go_ret;exact⟨iz HF.out,R⟩
 .have e1:bits .and .u64 55 63=55:=by decide+kernel
  have HF:=XAA (iT hk 11 55 36028797018963968 512 29198793459 qf qf qf qf);clear ha;go_enter func336,ntmps336;go_wp2_with (first|go_in);go_ret;exact⟨iz HF.out,R⟩
 .have e1:bits .and .u64 60 63=60:=by decide+kernel
  have HF:=XAA (iT hk 12 60 1152921504606846976 16 31853229228 qf qf qf qf);clear ha;go_enter func336,ntmps336;go_wp2_with (first|go_in);go_ret;exact⟨iz HF.out,R⟩
 .have e1:bits .and .u64 65 63=1:=by decide+kernel
  have HF:=XAA (iT hk 13 1 2 9223372036854775808 34507664997 qf qf qf qf);clear ha;go_enter func336,ntmps336;go_wp2_with (first|go_in);go_ret;exact⟨iz HF.out,R⟩
 .have e1:bits .and .u64 70 63=6:=by decide+kernel
  have HF:=XAA (iT hk 14 6 64 288230376151711744 37162100766 qf qf qf qf);clear ha;go_enter func336,ntmps336;go_wp2_with (first|go_in);go_ret;exact⟨iz HF.out,R⟩
 .have e1:bits .and .u64 75 63=11:=by decide+kernel
  have HF:=XAA (iT hk 15 11 2048 9007199254740992 39816536535 qf qf qf qf);clear ha;go_enter func336,ntmps336;go_wp2_with (first|go_in);go_ret;exact⟨iz HF.out,R⟩
theorem Ae(key:Nat)(hk:key<18446744073709551616)(i:Int)(hi:0<=i/\i<16)(w:World):Z 336 #[J key,I i] w λe w'=>
  e=.returned (J (lV key i.toNat))/\w'=w:=by
 have:=aaP key hk i.toNat qd w
 rwa [XEV hi.1] at this
theorem abM{n:Int}(hn: -1<=n/\n<16)(key t:Nat):bits .xor .u64 (n+1) (lV key t:Nat)=((kQ (n+1).toNat key t:Nat):Int):=by
 obtain⟨m,hm⟩:=XAb (show 0<=n+1 from qd);rw [hm,bits_xor_u64_nat m _ qd (Ad _ _)];rfl
theorem abN{x:Nat}(hx:x<18446744073709551616)(key t:Nat):bits .xor .u64 (x:Int) (lV key t:Nat)=((kQ x key t:Nat):Int):=by
 rw [bits_xor_u64_nat x _ hx (Ad _ _)];rfl
theorem V_(n:Int)(key:Nat)(hk:key<18446744073709551616)(i:Int)(w:World):Z 286 #[I n,J key,I i] w λe w'=>
  e=.returned (.tuple #[J (gT n key i).1,I (gT n key i).2])/\w'=w:=by
 by_cases h1: -1<=n/\n<16
 .by_cases h2:0<=i/\i<16
  .rw [show gT n key i=(((kQ (n+1).toNat key i.toNat:Nat):Int),0) by unfold gT;rw [XAE ⟨(DI n).2 h1,(zg i).2 h2⟩]];have HX:=XAA (abM h1 key i.toNat);have HI:=XAA (show decide (0<=i/\i<16)=true from qj);have ht:=Ad key i.toNat;by_cases h3:n= -1
   .subst h3;have N1:Hid (bits .xor .u64 0 (lV key i.toNat:Nat)=((kQ ((-1:Int)+1).toNat key i.toNat:Nat):Int)):=XAA HX.out;clear HX;go_enter func286,ntmps286;go_wp2_with (first|(go_at_call 335;refine Xr (mO i _ HI.out _) ?_)|(go_at_call 336;refine Xr (Ae key hk i h2 _) ?_))
    go_ret2
    exact⟨by rw [<-N1.out];rfl,R⟩
   .have h3':(n != -1)=true:=by rw [XBP];exact h3
    have HN:=XAA (show decide (0<=n/\n<16)=true from qj);clear h3;go_enter func286,ntmps286;go_wp2_with (first|(go_at_call 335;with_reducible refine Xr (mO i _ HI.out _) ?_)|(go_at_call 335;with_reducible refine Xr (mO n _ HN.out _) ?_)|(go_at_call 336;refine Xr (Ae key hk i h2 _) ?_))
    go_ret2
    exact⟨by rw [<-HX.out];rfl,R⟩
  .rw [show gT n key i=(0,2) by unfold gT;rw [XAD (λh=>h2 ((zg i).1 h.2))]];have HI:=XAA (show decide (0<=i/\i<16)=false from qj);clear h2;by_cases h3:n= -1
   .subst h3;go_enter func286,ntmps286;go_wp2_with (first|(go_at_call 335;refine Xr (mO i _ HI.out _) ?_))
    go_ret2
    exact⟨R,R⟩
   .have h3':(n != -1)=true:=by rw [XBP];exact h3
    have HN:=XAA (show decide (0<=n/\n<16)=true from qj);clear h3;go_enter func286,ntmps286;go_wp2_with (first|(go_at_call 335;with_reducible refine Xr (mO i _ HI.out _) ?_)|(go_at_call 335;with_reducible refine Xr (mO n _ HN.out _) ?_))
    go_ret2
    exact⟨R,R⟩
 .rw [show gT n key i=(0,2) by unfold gT;rw [XAD (λh=>h1 ((DI n).1 h.1))]];have h3':(n != -1)=true:=by rw [XBP];omega
  have HN:=XAA (show decide (0<=n/\n<16)=false from qj);clear h1;go_enter func286,ntmps286;go_wp2_with (first|(go_at_call 335;refine Xr (mO n _ HN.out _) ?_))
  go_ret2
  exact⟨R,R⟩
theorem abw(x key:Nat)(hx:x<18446744073709551616)(hk:key<18446744073709551616)(i:Int)(w:World):Z 283 #[J x,J key,I i] w λe w'=>
  e=.returned (.tuple #[I (jq x key i).1,.bool (jq x key i).2])/\w'=w:=by
 by_cases h2:0<=i/\i<16
 .have HI:=XAA (show decide (0<=i/\i<16)=true from qj);have hX:=abN hx key i.toNat;have hx':=I9 hx key i.toNat;by_cases h3:kQ x key i.toNat<=16
  .rw [show jq x key i=(((kQ x key i.toNat:Nat):Int)-1,true) by unfold jq;rw [XAE ⟨(zg i).2 h2,h3⟩]];go_enter func283,ntmps283;go_wp2_with (first|(go_at_call 335;refine Xr (mO i _ HI.out _) ?_)|(go_at_call 336;refine Xr (Ae key hk i h2 _) ?_))
   go_ret2
   exact⟨R,R⟩
  .rw [show jq x key i=(0,false) by unfold jq;rw [XAD (λh=>h3 h.2)]];go_enter func283,ntmps283;go_wp2_with (first|(go_at_call 335;refine Xr (mO i _ HI.out _) ?_)|(go_at_call 336;refine Xr (Ae key hk i h2 _) ?_))
   go_ret2
   exact⟨R,R⟩
 .rw [show jq x key i=(0,false) by unfold jq;rw [XAD (λh=>h2 ((zg i).1 h.1))]];have HI:=XAA (show decide (0<=i/\i<16)=false from qj);clear h2;go_enter func283,ntmps283;go_wp2_with (first|(go_at_call 335;refine Xr (mO i _ HI.out _) ?_))
  go_ret2
  exact⟨R,R⟩
theorem CQ(n:Int)(key:Nat)(hk:key<18446744073709551616)(i v e:Int)(h:gT n key i=(v,e))(w:World):Z 286 #[I n,J key,I i] w λr w'=>
  r=.returned (.tuple #[J v,I e])/\w'=w:=by
 have:=V_ n key hk i w
 rwa [h] at this
theorem D2(x key:Nat)(hx:x<18446744073709551616)(hk:key<18446744073709551616)(i n:Int)(b:Bool)(h:jq x key i=(n,b))(w:World):Z 283 #[J x,J key,I i] w λe w'=>
  e=.returned (.tuple #[I n,.bool b])/\w'=w:=by
 have:=abw x key hx hk i w
 rwa [h] at this
theorem R_(x:Int)(h0:0<=x)(h1:x<18446744073709551616)(w:World):Z 340 #[J x] w λe w'=>
  e=.returned (.tuple #[.agg #[I (cntF x).1.i,I (cntF x).1.o,.bool (cntF x).1.f,.bool (cntF x).1.l],.bool (cntF x).2])/\Below w w w':=by
 have e1:=FY h0 h1;have e2:=FY (w:=x / 256) qd qd;have e3:=P_ h0 h1;have e4:=Qa h0 h1;obtain⟨ff,jJ⟩:=Xq (fF x);obtain⟨fl,hfl⟩:=Xq (fL x);rw [jJ] at e3;rw [hfl] at e4;by_cases hw:x<262144
 .cases hm:iQ (x % 256) (x / 256 % 256) ff fl
  .rw [show cntF x=(yr,false) by unfold cntF fI fO;rw [jJ,hfl,hm,XAD (λh=>XCX h.2)]];have HM:=XAA hm;clear hm jJ hfl;go_enter func340,ntmps340;go_wp2_with (first|(go_at_call 341;refine(zf _ _ _ _ _ HM.out _).mono ?_;rintro e w1 ⟨rfl,hb1⟩;have p0:=((ak.new w 364 _).alloc _).below hb1;have p1:=(ak.new2 w _ 364 _).below hb1;have n1:=p1.lt;have c1:=p1.cell;have z1:=hb1.size;rw [XAT,XAT] at z1)|(refine aU R 364 _ _ R _ R R (p0) R qh qk ?_;intro w8 aC kb8;have kc8:=kb8.cell));exact XAI (v:=.tuple #[.agg #[I 0,I 0,.bool false,.bool false],.bool false]) qir R ⟨R,aI qa aC (XAB _)⟩
  .rw [show cntF x=(⟨x % 256,x / 256 % 256,ff,fl⟩,true) by unfold cntF fI fO;rw [jJ,hfl,XAE ⟨hw,hm⟩]];have HM:=XAA hm;clear hm jJ hfl;go_enter func340,ntmps340;go_wp2_with (first|(go_at_call 341;refine(zf _ _ _ _ _ HM.out _).mono ?_;rintro e w1 ⟨rfl,hb1⟩;have p0:=((ak.new w 364 _).alloc _).below hb1;have p1:=(ak.new2 w _ 364 _).below hb1;have n1:=p1.lt;have c1:=p1.cell;have z1:=hb1.size;rw [XAT,XAT] at z1)|(refine aU R 364 _ _ R _ R R (p0) R qh qk ?_;intro w8 aC kb8;have kc8:=kb8.cell));exact XAI (v:=.tuple #[.agg #[I (x % 256),I (x / 256 % 256),.bool ff,.bool fl],.bool true]) qir R ⟨R,aI qa aC (XAB _)⟩
 .rw [show cntF x=(yr,false) by unfold cntF;rw [XAD (λh=>hw h.1)]];clear jJ hfl;go_enter func340,ntmps340;go_wp2;exact XAI (v:=.tuple #[.agg #[I 0,I 0,.bool false,.bool false],.bool false]) (by simp [results,results340,go_sem]) R ⟨R,qa⟩
theorem BV(x i o:Int)(f l b:Bool)(h0:0<=x)(h1:x<18446744073709551616)(h:cntF x=(⟨i,o,f,l⟩,b))(w:World):Z 340 #[J x] w λr w'=>
  r=.returned (.tuple #[.agg #[I i,I o,.bool f,.bool l],.bool b])/\Below w w w':=by
 have:=R_ x h0 h1 w;rw [h] at this;exact this
end Go.Proofs.YtedefgjfgdcfdaaGreatDoor
