/- Walks and laws for TopPages. -/
import Derived.Test.YtedefgjfgdcfdaaGreatDoorQ00
namespace Go.Proofs.YtedefgjfgdcfdaaGreatDoor
open Go.RowKit Go.Proofs.Tryz
set_option maxRecDepth 100000
set_option maxHeartbeats 4000000
structure Pg where
 k:Int
 o:Int
 c:Int
 deriving DecidableEq
def iw:Pg:=⟨1,0,0⟩
abbrev Tab:=Nat->Pg
structure Hd(T:Tab)(a o:Nat):Prop where
 pM:o<=10
 ord:(T a).o=o
 kind:((T a).k=0/\(T a).c=0)\/((T a).k=2/\1<=(T a).c/\(T a).c<=8)
 al:a % 2 ^ o=0
 ins:∀j,1<=j->j<2 ^ o->T (a+j)=iw
inductive Seg (T:Tab):Nat->Nat->List (Nat × Nat)->Prop
 |nil (a:Nat):Seg T a a []
 |cons {a b o:Nat} {L:List (Nat × Nat)} :Hd T a o->Seg T (a+2 ^ o) b L->Seg T a b ((a,o)::L)
section
variable{T T':Tab}{a b c i o:Nat}{L M:List (Nat × Nat)}
theorem two_pos(o:Nat):0<2 ^ o:=Nat.pow_pos qf
theorem Seg.le(h:Seg T a b L):a<=b:=by
 induction h with
 |nil=>exact XAB _
 |cons _ _ ih=>exact XAL (XCL _ _) ih
theorem Seg.append(h:Seg T a b L)(h2:Seg T b c M):Seg T a c (L++M):=by
 induction h with
 |nil=>exact h2
 |cons h1 _ ih=>exact .cons h1 (ih h2)
theorem Hd.congr(h:Hd T a o)(he:∀i,a<=i->i<a+2 ^ o->T' i=T i):Hd T' a o:=by
 have h0:=he a (XAB _) (by have:=two_pos o;omega);refine⟨h.pM,by rw [h0];exact h.ord,by rw [h0];exact h.kind,h.al,λj h1 h2=>?_⟩;rw [he (a+j) qd qd];exact h.ins j h1 h2
theorem Seg.congr(h:Seg T a b L)(he:∀i,a<=i->i<b->T' i=T i):Seg T' a b L:=by
 induction h with
 |nil=>exact .nil _
 |cons h1 h2 ih=>
  rename_i o' _;have:=h2.le;have:=two_pos o';exact .cons (h1.congr λi hi hj=>he i hi qd) (ih λi hi hj=>he i qd hj)
theorem Seg.find(h:Seg T a b L)(h1:a<=i)(h2:i<b):∃p o L1 L2,L=L1++(p,o)::L2/\Seg T a p L1/\Hd T p o/\Seg T (p+2 ^ o) b L2/\p<=i/\i<p+2 ^ o:=by
 induction h with
 |nil=>omega
 | @cons a b o L hd hs ih=>
  by_cases hi:i<a+2 ^ o
  .exact⟨a,o, [],L,R,.nil _,hd,hs,h1,hi⟩
  .obtain⟨p,o',L1,L2,e,s1,d,s2,l1,l2⟩:=ih qd h2;exact⟨p,o',(a,o)::L1,L2,qjp,.cons hd s1,d,s2,l1,l2⟩
theorem Seg.at(h:Seg T a b L)(h1:a<=i)(h2:i<b)(hk:(T i).k≠1):∃o L1 L2,L=L1++(i,o)::L2/\Seg T a i L1/\Hd T i o/\Seg T (i+2 ^ o) b L2:=by
 obtain⟨p,o,L1,L2,e,s1,d,s2,l1,l2⟩:=h.find h1 h2;by_cases hp:p=i
 .subst hp;exact⟨o,L1,L2,e,s1,d,s2⟩
 .have:=d.ins (i-p) qd qd;rw [show p+(i-p)=i from qd] at this;rw [this] at hk;exact absurd R hk
theorem Seg.swap{n:Nat}{L1 L2:List (Nat × Nat)}(h1:Seg T 0 a L1)(h2:Seg T b n L2)(hm:Seg T' a b M)(he:∀i,i<a\/b<=i->T' i=T i):Seg T' 0 n (L1++(M++L2)):=
 (h1.congr λi _ hi=>he i (.inl hi)).append (hm.append (h2.congr λi hi _=>he i (.inr hi)))
def ir(T:Tab)(a o:Nat)(p:Pg):Tab:=λi=>if i=a then { p with o:=o } else if a<i/\i<a+2 ^ o then iw else T i
theorem sj{p:Pg}(h:i<a\/a+2 ^ o<=i):ir T a o p i=T i:=by
 have:=two_pos o;unfold ir;rw [XAD qd,XAD qd]
theorem y_{p:Pg} :ir T a o p a= { p with o:=o } :=XAE rfl
theorem y8{p:Pg}(h:o<=10)(hk:(p.k=0/\p.c=0)\/(p.k=2/\1<=p.c/\p.c<=8))(hal:a % 2 ^ o=0):Hd (ir T a o p) a o:=by
 refine⟨h,by rw [y_],by rw [y_];exact hk,hal,λj h1 h2=>?_⟩;unfold ir;rw [XAD qd,XAE qd]
def dJ(f:Nat × Nat->Nat):List (Nat × Nat)->Nat
 | []=>0
 |x::l=>f x+dJ f l
theorem LK(f g:Nat × Nat->Nat)(L:List (Nat × Nat)):dJ (λx=>f x+g x) L=dJ f L+dJ g L:=by
 induction L with
 |nil=>rfl
 |cons x L ih=>simp [dJ,ih];omega
theorem Seg.len(h:Seg T a b L):dJ (λx=>2 ^ x.2) L=b-a:=by
 induction h with
 |nil=>simp [dJ]
 | @cons a b o L _ h2 ih=>have:=h2.le;have:=two_pos o;simp [dJ,ih];omega
def jb(T:Tab)(x:Nat × Nat):Nat:=if(T x.1).k=0 then 2 ^ x.2 else 0
def wT(T:Tab)(N:List Nat)(x:Nat × Nat):Nat:=if(T x.1).k=2/\x.1∉N then 2 ^ x.2 else 0
def uj(N:List Nat)(x:Nat × Nat):Nat:=if x.1∈N then 1 else 0
structure cW(T:Tab)(n:Nat)(N:List Nat):Prop where
 seg:∃L,Seg T 0 n L
 nd:N.Nodup
 nr:∀p∈N,p<n/\(T p).k=2/\(T p).o=0
theorem Seg.mem(h:Seg T a b L){x:Nat × Nat}(hx:x∈L):Hd T x.1 x.2/\a<=x.1/\x.1+2 ^ x.2<=b:=by
 induction h with
 |nil=>cases hx
 | @cons a b o L hd hs ih=>
  have hle:=hs.le;have:=two_pos o;rcases XBD.1 hx with rfl|h1
  .exact⟨hd,XAB _,hle⟩
  .obtain⟨i1,i2,i3⟩:=ih h1;exact⟨i1,qd,i3⟩
theorem Seg.VY(h:Seg T a b L):(L.map (·.1)).Nodup:=by
 induction h with
 |nil=>simp
 | @cons a b o L hd hs ih=>
  rw [XBw,XCh];refine⟨λhm=>?_,ih⟩;obtain⟨x,hx,e⟩:=XBR.1 hm;have:=(hs.mem hx).2.1;have:=two_pos o;omega
theorem aa5(L:List (Nat × Nat))(N:List Nat):dJ (uj N) L=((L.map (·.1)).filter (·∈N)).length:=by
 induction L with
 |nil=>rfl
 |cons x L ih=>
  show uj N x+dJ (uj N) L=_;rw [ih,XBw,List.filter_cons];unfold uj;by_cases h:x.1∈N<;>simp [h];omega
theorem cW.Zd{n:Nat}{N:List Nat}(h:cW T n N)(hs:Seg T 0 n L):dJ (uj N) L=N.length:=by
 rw [aa5];refine List.Perm.length_eq ((List.perm_ext_iff_of_nodup (hs.VY.filter _) h.nd).2 λp=>?_);rw [XEG];constructor
 .exact λh=>by simpa using h.2
 .intro hp;refine⟨?_,by simpa using hp⟩;obtain⟨h1,h2,-⟩:=h.nr p hp;obtain⟨o,L1,L2,e,-,-,-⟩:=hs.at (XAJ _) h1 (by rw [h2];decide);rw [e];simp
theorem LL{f g:Nat × Nat->Nat} :∀{L:List (Nat × Nat)},(∀x∈L,f x=g x)->dJ f L=dJ g L
 | [],_=>rfl
 |x::L,h=>by show f x+dJ f L=g x+dJ g L;rw [h x (XA1 ..),LL λy hy=>h y (XBC _ hy)]
theorem cW.all{n:Nat}{N:List Nat}(h:cW T n N)(hs:Seg T 0 n L):dJ (wT T N) L+(dJ (jb T) L+N.length)=n:=by
 rw [<-h.Zd hs,<-LK,<-LK];have e:=hs.len;rw [Nat.sub_zero] at e;rw [<-e];refine LL λx hx=>?_;obtain⟨hd,-,hb⟩:=hs.mem hx;unfold wT jb uj;by_cases hN:x.1∈N
 .obtain⟨h1,h2,h3⟩:=h.nr _ hN;have h4:=hd.ord;rw [h3] at h4;have h5:x.2=0:=by omega
  simp [hN,h2,h5]
 .rcases hd.kind with⟨h1,-⟩|⟨h1,-⟩<;>simp [hN,h1]
def eC:List (Nat × Nat)->Nat->Nat
 | [],_=>0
 |x::l,p=>if p<x.1+2 ^ x.2 then x.1 else eC l p
theorem CH{x:Nat × Nat}(h:i<x.1+2 ^ x.2):eC (x::L) i=x.1:=XAE h
theorem CI{x:Nat × Nat}(h:¬i<x.1+2 ^ x.2):eC (x::L) i=eC L i:=XAD h
theorem Seg.eC(h:Seg T a b L)(h1:a<=i)(h2:i<b):∃o,(eC L i,o)∈L/\eC L i<=i/\i<eC L i+2 ^ o:=by
 induction h with
 |nil=>omega
 | @cons a b o L hd hs ih=>
  by_cases hi:i<a+2 ^ o
  .rw [CH (by exact hi)];exact⟨o,XA1 ..,h1,hi⟩
  .rw [CI (by exact hi)];obtain⟨o',m,l1,l2⟩:=ih qd h2;exact⟨o',XBC _ m,l1,l2⟩
def iB(T:Tab)(N:List Nat)(L:List (Nat × Nat))(i:Nat):Bool:=decide ((T (eC L i)).k=2/\eC L i∉N)
def ja(f:Nat->Bool):Nat->Nat
 |0=>0
 |n+1=>ja f n+(if f n=true then 1 else 0)
theorem GQ{f:Nat->Bool}{b:Bool}(a:Nat):∀k,(∀i,a<=i->i<a+k->f i=b)->ja f (a+k)=ja f a+if b=true then k else 0
 |0,_=>ql
 |k+1,h=>by show ja f (a+k)+(if f (a+k)=true then 1 else 0)=_;rw [GQ a k λi h1 h2=>h i h1 qd,h (a+k) qd qd];cases b<;>simp<;>omega
theorem Seg.cnt{N:List Nat}(h:Seg T a b L):∀(f:Nat->Bool),(∀i,a<=i->i<b->f i=iB T N L i)->ja f b=ja f a+dJ (wT T N) L:=by
 induction h with
 |nil=>exact λf _=>rfl
 | @cons a b o L hd hs ih=>
  intro f hf;have hle:=hs.le;have hp:=two_pos o;have e1:=ih f λi h1 h2=>by rw [hf i qd h2];unfold iB;rw [CI (by show ¬i<a+2 ^ o;omega)]
  rw [e1,GQ (b:=decide ((T a).k=2/\a∉N)) a (2 ^ o) λi h1 h2=>by
   rw [hf i h1 qd]
   unfold iB
   rw [CH (by show i<a+2 ^ o;exact h2)]]
  show _=_+(wT T N (a,o)+_);unfold wT;by_cases hc:(T a).k=2/\a∉N
  .simp [hc];omega
  .simp [hc]
theorem cW.count{n:Nat}{N:List Nat}(h:cW T n N)(hs:Seg T 0 n L):ja (iB T N L) n+(dJ (jb T) L+N.length)=n:=by
 have:=hs.cnt (N:=N) (iB T N L) λ_ _ _=>rfl;rw [this,<-h.all hs];show 0+_+_=_;omega
theorem cW.swap{n m:Nat}{N:List Nat}{L1 L2:List (Nat × Nat)}(h:cW T n N)(h1:Seg T 0 a L1)(h2:Seg T m n L2)(hm:Seg T' a m M)(he:∀i,i<a\/m<=i->T' i=T i)(hN:∀p∈N,p<a\/m<=p):cW T' n N:=
 ⟨⟨_,h1.swap h2 hm he⟩,h.nd,λp hp=>by
  obtain⟨i1,i2,i3⟩:=h.nr p hp
  rw [he p (hN p hp)]
  exact⟨i1,i2,i3⟩⟩
theorem cW.off{n:Nat}{N:List Nat}(h:cW T n N)(hd:Hd T a o)(hk:(T a).k=0):∀p∈N,p<a\/a+2 ^ o<=p:=by
 intro p hp;obtain⟨i1,i2,i3⟩:=h.nr p hp;rcases (by omega:p<a\/a+2 ^ o<=p\/p=a\/(a<p/\p<a+2 ^ o)) with h1|h1|rfl|h1
 .exact .inl h1
 .exact .inr h1
 .rw [hk] at i2;cases i2
 .have:=hd.ins (p-a) qd qd;rw [show a+(p-a)=p from qd] at this;rw [this] at i2;cases i2
structure Cutting(T T':Tab)(a o k:Nat):Prop where
 out:∀i,i<a\/a+2 ^ o<=i->T' i=T i
 seg:∃M,Seg T' (a+2 ^ k) (a+2 ^ o) M
 le:k<=o
theorem Cutting.refl(T:Tab)(a o:Nat):Cutting T T a o o:=⟨λ_ _=>rfl,⟨[],.nil _⟩,XAB _⟩
theorem zy{k:Nat} :2 ^ (k+1)=2 ^ k+2 ^ k:=by rw [XCp];omega
theorem wO{k o:Nat}(h:k<=o):2 ^ k<=2 ^ o:=XER qf h
theorem vd{k o a:Nat}(h:a % 2 ^ o=0)(hk:k<=o):a % 2 ^ k=0:=by
 have:=Nat.pow_dvd_pow 2 hk;exact Nat.mod_eq_zero_of_dvd (Nat.dvd_trans this (Nat.dvd_of_mod_eq_zero h))
theorem Pm{k a:Nat}(h:a % 2 ^ (k+1)=0):(a+2 ^ k) % 2 ^ k=0:=by
 rw [XDp];exact vd h (XAU k)
theorem Cutting.step{k:Nat}(h:Cutting T T' a o (k+1))(ho:o<=10)(hal:a % 2 ^ o=0):Cutting T (ir T' (a+2 ^ k) k ⟨0,0,0⟩) a o k:=by
 have h1:=wO h.le;have h2:=zy (k:=k);have h3:=h.le;have hp:=two_pos k;obtain⟨M,hM⟩:=h.seg;refine⟨λi hi=>?_,⟨(a+2 ^ k,k)::M,.cons (y8 qd (.inl ⟨R,R⟩) (Pm (vd hal h.le))) ?_⟩,qd⟩
 .rw [sj qd];exact h.out i hi
 .rw [show a+2 ^ k+2 ^ k=a+2 ^ (k+1) from qd];exact hM.congr λi hi hj=>sj qd
theorem Cutting.done{k c n:Nat}{N:List Nat}{L1 L2:List (Nat × Nat)}(h:Cutting T T' a o k)(hz:cW T n N)(h1:Seg T 0 a L1)(hd:Hd T a o)(hk:(T a).k=0)(h2:Seg T (a+2 ^ o) n L2)(c1:1<=c)(c8:c<=8):cW (ir T' a k ⟨2,0,c⟩) n N:=by
 obtain⟨M,hM⟩:=h.seg;have h3:=wO h.le;have hp:=two_pos k;have hp':=hd.pM;have hl:=h.le;have hs:Seg (ir T' a k ⟨2,0,c⟩) a (a+2 ^ o) ((a,k)::M):=.cons (y8 qd (.inr ⟨R,by show(1:Int)<=c;omega,by show(c:Int)<=8;omega⟩) (vd hd.al h.le)) (hM.congr λi hi hj=>sj qd);refine hz.swap h1 h2 hs (λi hi=>?_) (hz.off hd hk);rw [sj qd];exact h.out i hi
structure gx(T:Tab)(n page a k:Nat):Prop where
 before:∃L,Seg T 0 a L
 behind:∃L,Seg T (a+2 ^ k) n L
 al:a % 2 ^ k=0
 k10:k<=10
 own:∀q,a<=q->q<a+2 ^ k->(T q).k=2->q=page
theorem gx.begin{n page:Nat}(h:Seg T 0 n L)(hp:page<n)(hk:(T page).k=2):∃o:Nat,(T page).o=o/\gx T n page page o:=by
 obtain⟨o,L1,L2,-,s1,d,s2⟩:=h.at (XAJ _) hp (by rw [hk];decide);refine⟨o,d.ord,⟨L1,s1⟩,⟨L2,s2⟩,d.al,d.pM,λq h1 h2 h3=>?_⟩;by_cases e:q=page
 .exact e
 .have:=d.ins (q-page) qd qd;rw [show page+(q-page)=q from qd] at this;rw [this] at h3;cases h3
theorem gx.up{n page k:Nat}(h:gx T n page a k)(hal:a % 2 ^ (k+1)=0)(hx:T (a+2 ^ k)=⟨0,k,0⟩)(hn:a+2 ^ k<n)(hk:k<10):gx T n page a (k+1):=by
 have h2:=zy (k:=k);obtain⟨L,hL⟩:=h.behind;have hk1:(T (a+2 ^ k)).k≠1:=by rw [hx];exact(by decide:(0:Int)≠1)
 obtain⟨o',L1,L2,-,s1,d,s2⟩:=hL.at (XAB _) hn hk1;have ho:(k:Int)=o':=by have:=d.ord;rw [hx] at this;exact this
 obtain rfl:k=o':=qd;refine⟨h.before,⟨L2,by rw [show a+2 ^ (k+1)=a+2 ^ k+2 ^ k from qd];exact s2⟩,hal,hk,λq h1 h3 h4=>?_⟩;by_cases e:q<a+2 ^ k
 .exact h.own q h1 e h4
 .by_cases e2:q=a+2 ^ k
  .subst e2;rw [hx] at h4;cases h4
  .have:=d.ins (q-(a+2 ^ k)) qd qd;rw [show a+2 ^ k+(q-(a+2 ^ k))=q from qd] at this;rw [this] at h4;cases h4
theorem gx.down{n page k:Nat}(h:gx T n page (a+2 ^ k) k)(hal:a % 2 ^ (k+1)=0)(hx:T a=⟨0,k,0⟩)(hk:k<10):gx T n page a (k+1):=by
 have h2:=zy (k:=k);have hp:=two_pos k;obtain⟨L,hL⟩:=h.before;have hk1:(T a).k≠1:=by rw [hx];exact(by decide:(0:Int)≠1)
 obtain⟨o',L1,L2,-,s1,d,s2⟩:=hL.at (XAJ _) (show a<a+2 ^ k from qd) hk1;have ho:(k:Int)=o':=by have:=d.ord;rw [hx] at this;exact this
 obtain rfl:k=o':=qd;refine⟨⟨L1,s1⟩,by rw [show a+2 ^ (k+1)=a+2 ^ k+2 ^ k from qd];exact h.behind,hal,hk,λq h1 h3 h4=>?_⟩;by_cases e:a+2 ^ k<=q
 .exact h.own q e qd h4
 .by_cases e2:q=a
  .subst e2;rw [hx] at h4;cases h4
  .have:=d.ins (q-a) qd qd;rw [show a+(q-a)=q from qd] at this;rw [this] at h4;cases h4
theorem gx.done{n page k:Nat}{N:List Nat}(h:gx T n page a k)(hz:cW T n N)(hp:page∉N):cW (ir T a k ⟨0,0,0⟩) n N:=by
 obtain⟨L1,s1⟩:=h.before;obtain⟨L2,s2⟩:=h.behind;refine hz.swap s1 s2 (.cons (y8 h.k10 (.inl ⟨R,R⟩) h.al) (.nil _)) (λi hi=>sj hi) λp Jk=>?_;obtain⟨i1,i2,-⟩:=hz.nr p Jk;rcases (by omega:p<a\/a+2 ^ k<=p\/(a<=p/\p<a+2 ^ k)) with h1|h1|h1
 .exact .inl h1
 .exact .inr h1
 .exact absurd (h.own p h1.1 h1.2 i2 ▸ Jk) hp
theorem gx.le{n page k:Nat}(h:gx T n page a k):a+2 ^ k<=n:=by
 obtain⟨L,hL⟩:=h.behind;exact hL.le
end
section
variable{T T':Tab}{a n p:Nat}{N N':List Nat}{L:List (Nat × Nat)}
theorem cW.perm(h:cW T n N)(hp:N'.Perm N):cW T n N':=⟨h.seg,hp.nodup_iff.2 h.nd,λp hp'=>h.nr p (hp.mem_iff.1 hp')⟩
theorem cW.sub(h:cW T n (p::N)):cW T n N:=⟨h.seg,(XCh.1 h.nd).2,λq hq=>h.nr q (XBC _ hq)⟩
def Av(T:Tab)(n p:Nat)(T':Tab):Prop:=∃a k,gx T n p a k/\T'=ir T a k ⟨0,0,0⟩
theorem Av.ok(h:Av T n p T')(hz:cW T n N)(hp:p∉N):cW T' n N:=by
 obtain⟨a,k,hg,rfl⟩:=h;exact hg.done hz hp
structure OU(T:Tab)(n:Nat)(N:List Nat)(F:Int->Option Int):Prop where
 ok:cW T n N
 one:∀x c,F x=some c->1<=c
def ot(T:Tab)(n o c a:Nat)(T':Tab):Prop:=
 ∃k T1,(∃L,Seg T 0 a L)/\Hd T a k/\(T a).k=0/\(∃L,Seg T (a+2 ^ k) n L)/\Cutting T T1 a k o/\T'=ir T1 a o ⟨2,0,c⟩
theorem ot.ok{o c:Nat}(h:ot T n o c a T')(hz:cW T n N)(h1:1<=c)(h8:c<=8):cW T' n N:=by
 obtain⟨k,T1,⟨L1,s1⟩,hd,hk,⟨L2,s2⟩,hc,rfl⟩:=h;exact hc.done hz s1 hd hk s2 h1 h8
theorem ot.at_{o c:Nat}(h:ot T n o c a T'):T' a=⟨2,o,c⟩:=by
 obtain⟨k,T1,-,-,-,-,-,rfl⟩:=h;exact y_
theorem ot.lt{o c:Nat}(h:ot T n o c a T'):a<n:=by
 obtain⟨k,T1,-,-,-,⟨L2,s2⟩,-,-⟩:=h;have:=s2.le;have:=two_pos k;omega
end
def bC(C:Nat)(L:Nat->List Nat):List Nat:=(List.range C).flatMap L
section
variable{C k:Nat}{L M:Nat->List Nat}
theorem Ua{p:Nat} :p∈bC C L↔∃i,i<C/\p∈L i:=by
 unfold bC;rw [XCi];simp only [XAu]
theorem Hu{α β:Type}{f g:α->List β} :∀{l:List α},(∀y∈l,f y=g y)->l.flatMap f=l.flatMap g
 | [],_=>rfl
 |x::l,h=>by rw [XBK,XBK,h x (XA1 ..),Hu λy hy=>h y (XBC _ hy)]
theorem yz(hk:k<C):(bC C L).Perm (L k++(bC C λi=>if i=k then [] else L i)):=by
 unfold bC;have:∀(l:List Nat),k∈l->l.Nodup->(l.flatMap L).Perm (L k++l.flatMap λi=>if i=k then [] else L i):=by
  intro l;induction l with
  |nil=>intro h;cases h
  |cons x l ih=>
   intro hm hn;rw [XCh] at hn;rw [XBK,XBK];by_cases e:x=k
   .subst e;rw [XAE R,XAx];refine XEj _ (List.Perm.of_eq ?_);exact Hu λy hy=>by rw [XAD (λe=>hn.1 (by rw [<-e];exact hy))]
   .rw [XAD e];have h1:=ih ((XBD.1 hm).resolve_left λh=>e h.symm) hn.2;refine(XEj _ h1).trans ?_;rw [<-XB1,<-XB1];exact List.Perm.append_right _ List.perm_append_comm
 exact this _ (XAu.2 hk) XEk
theorem Hv(hk:k<C)(l:List Nat):(bC C λi=>if i=k then l else L i).Perm (l++(bC C λi=>if i=k then [] else L i)):=by
 refine(yz (L:=λi=>if i=k then l else L i) hk).trans ?_;rw [XAE rfl];refine XEj _ (List.Perm.of_eq ?_)
 congr 1
 funext i;by_cases e:i=k
 .rw [XAE e,XAE e]
 .rw [XAD e,XAD e,XAD e]
theorem Cg:∀C,bC C (λ_=> [])= []
 |0=>rfl
 |C+1=>by unfold bC;rw [XBz,XCJ];show bC C _++_=_;rw [Cg C];rfl
end
end Go.Proofs.YtedefgjfgdcfdaaGreatDoor
