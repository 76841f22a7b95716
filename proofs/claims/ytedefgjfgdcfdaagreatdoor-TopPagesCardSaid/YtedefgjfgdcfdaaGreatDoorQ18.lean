/- Walks and laws for TopPages. -/
import Derived.Test.YtedefgjfgdcfdaaGreatDoorQ17
import Derived.StillTailTactics
import Derived.Laws.CopyOwn
import Derived.Lib.MinMax
namespace Go.Proofs.YtedefgjfgdcfdaaGreatDoor
open Go.RowKit Go.Proofs.Tryz
set_option maxRecDepth 100000
set_option maxHeartbeats 4000000
def mR:List Int:= [8,16,32,48,64,96,128,192,256,512]
abbrev wS:Array Value:=#[I 8,I 16,I 32,I 48,I 64,I 96,I 128,I 192,I 256,I 512]
theorem LM(w:World):Z 215 #[] w λe w'=>e=.returned (.agg wS)/\Below w w w':=by
 have k0:=ak.new w 329 #[I 0,I 0,I 0,I 0,I 0,I 0,I 0,I 0,I 0,I 0];go_enter func215,ntmps215;go_wp2_with (refine aU R 329 _ _ R _ R R k0 R qh qk ?_;intro w8 aC kb8;have kc8:=kb8.cell);exact XAI (v:=.agg wS) (by simp [results,results215,go_sem,kc8]) R ⟨R,aI ((XAC _ w).alloc (XAB _) _) aC (XAB _)⟩
theorem aaM:(mR.take 10).Pairwise (·<= ·):=qf
theorem aa7(n:Int)(h:n<=512):(mR.take 10).countP (·<n)<=9:=by
 have h1:=List.countP_le_length (l:=mR.take 10) (p:=λx=>decide (x<n));rcases XAc ((mR.take 10).countP (·<n)) 10 with h2|h2
 .omega
 .have h3:(mR.take 10).countP (λx=>decide (x<n))=(mR.take 10).length:=by
   have:(mR.take 10).length=10:=rfl;omega
  have h4:=List.countP_eq_length.1 h3 512 qf;simp at h4;omega
theorem aa6(w:World):∀j,j<mR.length->(w.alloc (.cells wS 329)).cell? (w.heap.size,0+j)=I (mR.getD j 0):=λj hj=>by
 rw [XAV,(ak.new w 329 wS).cell];have hj':j<10:=hj
 match j,hj' with
 |0,_=>rfl
 |1,_=>rfl
 |2,_=>rfl
 |3,_=>rfl
 |4,_=>rfl
 |5,_=>rfl
 |6,_=>rfl
 |7,_=>rfl
 |8,_=>rfl
 |9,_=>rfl
theorem abV(n:Int)(h1:1<=n)(h5:n<=512)(w:World):Z 169 #[I n] w λe w'=>∃c:Nat,c<=9/\e=.returned (.tuple #[nV c,I 0])/\Below w w w':=by
 have a1:¬n<1:=qd;have a2:¬512<n:=qd;have HC:=XAA (aa7 n h5);have HS:=XAA aaM;clear h1 h5;go_enter func169,ntmps169;go_wp2_with (first|(go_at_call 215;refine(LM _).mono ?_;rintro e w1 ⟨rfl,hb1⟩)|(go_at_call 216;refine(slices_BinarySearch_int w1.heap.size 0 10 10 mR n _ qf qf (aa6 w1) HS.out).mono ?_;rintro e w2 ⟨rfl,q,rfl⟩))
 go_ret2
 exact⟨_,HC.out,R,XCr (hb1.alloc hb1.size _) q⟩
theorem aa8(c:Nat)(hc:c<=9):∃s:Int,8<=s/\s<=512/\∀w:World,(Instr.index 329 (.agg wS) (I c)).run prog w=.ok (I s) w:=by
 rcases (by omega:c=0\/c=1\/c=2\/c=3\/c=4\/c=5\/c=6\/c=7\/c=8\/c=9) with rfl|rfl|rfl|rfl|rfl|rfl|rfl|rfl|rfl|rfl
 .exact⟨8,qf,qf,λw=>qh⟩
 .exact⟨16,qf,qf,λw=>qh⟩
 .exact⟨32,qf,qf,λw=>qh⟩
 .exact⟨48,qf,qf,λw=>qh⟩
 .exact⟨64,qf,qf,λw=>qh⟩
 .exact⟨96,qf,qf,λw=>qh⟩
 .exact⟨128,qf,qf,λw=>qh⟩
 .exact⟨192,qf,qf,λw=>qh⟩
 .exact⟨256,qf,qf,λw=>qh⟩
 .exact⟨512,qf,qf,λw=>qh⟩
theorem acd(c:Nat)(hc:c<=9)(w:World):Z 217 #[I c] w λe w'=>∃s:Int,8<=s/\s<=512/\e=.returned (.tuple #[I s,I 0])/\Below w w w':=by
 have a1:¬(c:Int)<0:=qd;have a2:¬(10:Int)<=(c:Int):=qd;obtain⟨s,h1,h2,hs⟩:=aa8 c hc;clear hc;go_enter func217,ntmps217;go_wp2_with (go_at_call 215;refine(LM _).mono ?_;rintro e w1 ⟨rfl,hb1⟩)
 go_ret2
 exact⟨s,h1,h2,R,hb1⟩
def OM(w:World)(e:Ending)(w':World):Prop:=∃s a:Int,8<=s/\s<=512/\(a=8\/a=16)/\e=.returned (.tuple #[.agg #[I s,I a,I 4],I 0])/\Below w w w'
theorem ace(c:Nat)(hc:c<=9)(w:World):Z 170 #[I c] w (OM w):=by
 have k0:=ak.new w 188 #[I 0,I 0,I 0];have hb0:Below w w (w.alloc (.cells #[I 0,I 0,I 0] 188)):=(XAC _ _).alloc (XAB _) _;have HC:=XAA hc;clear hc;go_enter func170,ntmps170;go_wp2_with (first|(go_at_call 217;refine(acd c HC.out _).mono ?_;rintro e w1 ⟨s,h1,h2,rfl,hb1⟩;have k1:=k0.below hb1;rcases Decidable.em (s % 16=0) with hm|hm)|(refine aU R 188 _ _ R _ R R (k1.alloc _) R qh qk ?_;intro w8 aC kb8;have kc8:=kb8.cell))
 .exact XAI (v:=.tuple #[.agg #[I s,I 16,I 4],I 0]) qiq R ⟨s,16,h1,h2,.inr R,R,aI ((hb0.trans (hb1.mono hb0.size)).alloc (XAL hb0.size hb1.size) _) aC (XAB _)⟩
 .exact XAI (v:=.tuple #[.agg #[I s,I 8,I 4],I 0]) qiq R ⟨s,8,h1,h2,.inl R,R,aI ((hb0.trans (hb1.mono hb0.size)).alloc (XAL hb0.size hb1.size) _) aC (XAB _)⟩
theorem sL(x a b:Int)(h1:a<=x)(h2:x<=b)(w:World):Z 40 #[I x,I a,I b] w λe w'=>e=.returned (.bool true)/\w'=w:=by
 go_enter func40,ntmps40;go_wp2;go_ret;exact⟨R,R⟩
structure Cl where
 op:Int
 a:Int
 b:Int
 c:Int
structure j7(x:Cl):Prop where
 o0:0<=x.op
 o1:x.op<=13
 a0:0<=x.a
 a1:x.a<=255
 b0:0<=x.b
 b1:x.b<=65535
 c0:0<=x.c
 c1:x.c<=255
abbrev GO(x:Cl):Value:=.agg #[I x.op,I x.a,I x.b,I x.c]
theorem acE(x:Cl)(h:j7 x)(w:World):Z 43 #[GO x] w λe w'=>e=.returned (.bool true)/\Below w w w':=by
 obtain⟨o,a,b,c⟩:=x;obtain⟨h1,h2,h3,h4,h5,h6,h7,h8⟩:=h;simp only at h1 h2 h3 h4 h5 h6 h7 h8;go_enter func43,ntmps43;go_wp2_with (first|(go_at_call 40;with_reducible refine Xr (sL o 0 13 h1 h2 _) ?_)|(go_at_call 40;with_reducible refine Xr (sL a 0 255 h3 h4 _) ?_)|(go_at_call 40;with_reducible refine Xr (sL b 0 65535 h5 h6 _) ?_)|(go_at_call 40;with_reducible refine Xr (sL c 0 255 h7 h8 _) ?_));go_ret;exact⟨R,(XAC _ _).alloc (XAB _) _⟩
theorem acg(x:Cl)(h:j7 x)(w:World):Z 42 #[GO x] w λe w'=>e=.returned (.bool false)/\Below w w w':=by
 have H:=XAA h;clear h;go_enter func42,ntmps42;go_wp2_with (go_at_call 43;refine(acE x H.out _).mono ?_;rintro e w1 ⟨rfl,hb1⟩);go_ret;exact⟨R,df hb1⟩
theorem ach(n:Int)(h1:0<=n)(h2:n<=255)(w:World):Z 45 #[I n] w λe w'=>e=.returned (.bool false)/\w'=w:=by
 go_enter func45,ntmps45;go_wp2_with (go_at_call 40;refine Xr (sL n 0 255 h1 h2 _) ?_);go_ret;exact⟨R,R⟩
structure RdB(n0:Nat)(w:World)(b:Nat)(A:Option Addr)(n c:Nat):Prop where
 nc:n<=c
 big:c<=9223372036854775807
 nb:n0<=b
 row:0<n->∃g off,A=some ⟨g,off,none⟩/\g<n0/\∀j,j<n->∃u:Nat,u<256/\w.cell? (g,off+j)=some (.int .u8 (u:Int))
def eX(n0:Nat)(w:World)(b:Nat):Prop:=∃A n c,ak w b 71 #[.slice A n c]/\RdB n0 w b A n c
theorem RdB.keep{n0:Nat}{w w':World}{b:Nat}{A:Option Addr}{n c:Nat}(h:RdB n0 w b A n c)(hb:Below n0 w w'):RdB n0 w' b A n c:=
 ⟨h.nc,h.big,h.nb,λhn=>by
  obtain⟨g,off,h1,h2,h4⟩:=h.row hn
  refine⟨g,off,h1,h2,λj hj=>?_⟩
  obtain⟨u,h5,h6⟩:=h4 j hj
  exact⟨u,h5,(hb.cell (p:=⟨g,off+j,none⟩) h2).trans h6⟩⟩
theorem eX.keep{n0:Nat}{w w':World}{b:Nat}(h:eX n0 w b)(hb:Below n0 w w')(he:w'.heap[b]? =w.heap[b]?):eX n0 w' b:=by
 obtain⟨A,n,c,h1,h2⟩:=h;exact⟨A,n,c,he.trans h1,h2.keep hb⟩
theorem eX.lt{n0:Nat}{w:World}{b:Nat}(h:eX n0 w b):b<w.heap.size:=by
 obtain⟨A,n,c,h1,-⟩:=h;exact h1.lt
def OO(n0:Nat)(w:World)(b:Nat)(e:Ending)(w':World):Prop:=∃x:Nat,x<256/\e=.returned (nV x)/\eX n0 w' b/\Rws [b] w w'
theorem sJ(n0:Nat)(w:World)(b:Nat)(h:eX n0 w b):Z 18 #[(b,0)] w (OO n0 w b):=by
 obtain⟨A,n,c,h1,h2⟩:=h;have c0:w.cell? (b,0)=some (.slice A n c):=h1.cell 0;have f0:=h1.frozen 0;cases n with
 |zero=>
  have H1:=XAA h1;have H2:=XAA h2;clear h1 h2;go_enter func18,ntmps18;go_wp2;go_ret;exact⟨0,qf,R,⟨A,0,c,H1.out,H2.out⟩,Rws.refl _ _⟩
 |succ n=>
  obtain⟨g,off,rfl,hg,hc⟩:=h2.row (Nat.succ_pos n);obtain⟨u,hu,VR⟩:=hc 0 (Nat.succ_pos n);rw [XB5] at VR;have hw:IntKind.i64.wrap (u:Int)=(u:Int):=XAM _ qd;have H1:=XAA h1;have HC:=XAA hc;have nc:=h2.nc;have big:=h2.big;have nb:=h2.nb;have n1:¬(n:Int)+1<1:=qd
  have c1:¬(c:Int)<1:=qd;have n2:((n:Int)+1==0)=false:=qj;clear h1 h2 hc;go_enter func18,ntmps18;go_wp2
  .go_ret;exact⟨u,hu,R,⟨_,n,0,H1.out.aJ 0 _,⟨qd,qf,nb,λhn=>qd⟩⟩,(Rws.refl [b] w).set (XA2.2 R) 0 _⟩
  .go_ret;refine⟨u,hu,R,⟨_,n,c-1,H1.out.aJ 0 _,⟨qd,qd,nb,λ_=>⟨g,off+1,R,hg,λj hj=>?_⟩⟩⟩,(Rws.refl [b] w).set (XA2.2 R) 0 _⟩;obtain⟨v,h3,h4⟩:=HC.out (j+1) qd;refine⟨v,h3,?_⟩;rw [show off+1+j=off+(j+1) from qd];exact(XAP (w:=w) (XAN w _ _ g (by show g≠b;omega))).trans h4
theorem ZH(a b:Fin 256):bits .or .i64 ((a.val:Int)*256) (b.val:Int)=(a.val:Int)*256+(b.val:Int):=by
 obtain⟨a,ha⟩:=a;obtain⟨b,hb⟩:=b;have e:(a:Int)*256=((2 ^ 8*a:Nat):Int):=qd
 show bits .or .i64 ((a:Int)*256) (b:Int)=(a:Int)*256+(b:Int);rw [e,<-XDb,XEt qd];have h1:2 ^ 8*a|||b<2 ^ 16:=Nat.or_lt_two_pow qd qd
 generalize hx:2 ^ 8*a=x at h1 ⊢;have hx2:x<65536:=qd
 have q1:(BitVec.ofInt 64 (x:Int)).toNat=x:=qdu;have q2:(BitVec.ofInt 64 (b:Int)).toNat=b:=qdu;show IntKind.i64.wrap ((BitVec.ofInt 64 (x:Int)|||BitVec.ofInt 64 (b:Int)).toNat:Int)=_;rw [BitVec.toNat_or,q1,q2];exact XAM _ qd
def OP(n0:Nat)(w:World)(b:Nat)(e:Ending)(w':World):Prop:=∃x:Nat,x<65536/\e=.returned (nV x)/\eX n0 w' b/\Rws [b] w w'
theorem LR(n0:Nat)(w:World)(b:Nat)(h:eX n0 w b):Z 19 #[(b,0)] w (OP n0 w b):=by
 have H:=XAA h;have HR:=XAA (Rws.refl [b] w);clear h;go_enter func19,ntmps19;go_wp2_with (go_at_call 18;refine(sJ n0 _ b H.out).mono ?_;rintro e w1 ⟨x,hx,rfl,h1,r1⟩;have H:=XAA h1;have HR:=XAA (HR.out.trans r1);clear h1 r1);go_ret;rename_i y hy _ _;have ho:=ZH ⟨y,hy⟩ ⟨x,hx⟩;simp only at ho;exact⟨y*256+x,qd,by rw [ho];rfl,H.out,HR.out⟩
section
open Go.Shelf
def dT(x:Cl):List Value:= [I x.op,I x.a,I x.b,I x.c]
instance:Inhabited Cl:=⟨⟨0,0,0,0⟩⟩
structure Sc where
 C:Nat
 n:Nat
 K:Nat->List Cl
 P:List Nat
structure xT(s:Sc):Prop where
 c1:1<=s.C
 c8:s.C<=8
 n1:1<=s.n
 n2:s.n<=1024
 len:∀i,i<s.C->(s.K i).length<=64
 ok:∀i,i<s.C->∀x∈s.K i,j7 x
 pl:s.P.length<=4096
 pk:∀x∈s.P,x<=255
structure oM(w:World)(cb:Nat)(V:Nat->Value)(pv:Value)(s:Sc):Prop where
 row:aG w cb 64 ((List.range s.C).map V)
 own:∀i,i<s.C->w.ownsRow 0 63 4 (V i) (s.K i).length ((s.K i).flatMap dT)
 pk:w.ownsRow 0 3 1 pv s.P.length (s.P.map nV)
 ok:xT s
abbrev uw(cb:Nat)(pv:Value)(s:Sc):Value:=.agg #[nV s.C,nV s.n,.slice (cb,0) s.C s.C,pv]
section
variable{w w':World}{cb:Nat}{V:Nat->Value}{pv:Value}{s:Sc}
theorem oM.below(h:oM w cb V pv s)(hb:Below w w w'):oM w' cb V pv s:=
 ⟨h.row.below hb,λi hi=>cM (h.own i hi) λg hg=>hb.block g (cO (h.own i hi) hg),cM h.pk λg hg=>hb.block g (cO h.pk hg),h.ok⟩
end
structure Ck where
 x:Cl
 h:j7 x
theorem vl:j7 ⟨0,0,0,0⟩:=⟨qf,qf,qf,qf,qf,qf,qf,qf⟩
instance:Inhabited Ck:=⟨⟨⟨0,0,0,0⟩,vl⟩⟩
theorem RL(w:World):PredBelow prog 42 #[] (λp:Ck=>.agg (dT p.x).toArray) (λ_=>false) w:=λW x hb=>(acg x.x x.h W).mono λ_ _ h=>⟨h.1,hb.trans (h.2.mono hb.size)⟩
theorem GL:∀l:List Cl,(∀x∈l,j7 x)->∃L:List Ck,L.map Ck.x=l
 | [],_=>⟨[],R⟩
 |x::l,h=>by obtain⟨L,hL⟩:=GL l λy hy=>h y (XBC _ hy);exact⟨⟨x,h x (XA1 ..)⟩::L,by rw [XBw,hL]⟩
theorem GD:∀(l:List Cl)(j i:Nat),j<l.length->i<4->(l.flatMap dT)[j*4+i]? =(dT (l.getD j default))[i]?
 | [],_,_,h,_=>qer
 |x::l,0,i,_,hi=>by rw [XBK,XB0 qjz];simp
 |x::l,j+1,i,h,hi=>by rw [XBK,XBy qjz];have:=GD l j i (by simp at h;omega) hi;rw [show(j+1)*4+i-(dT x).length=j*4+i from qjz,this];simp
theorem Ru(a:Option Addr)(c:Nat)(fv:Value)(w:World):Z 65 #[.slice a 0 c,fv] w λe w'=>e=.returned (I (-1))/\w'=w:=by
 go_enter func65,ntmps65;go_wp2;go_loopw [5,8] (λ_ i wr=>i=I 0/\wr=w) (λ_ _ _=>0)
 case atStart=>exact⟨R,R⟩
 case round=>
  obtain⟨rfl,rfl⟩:=hrel;go_wp2;go_ret;exact⟨R,R⟩
theorem Rp(a:Option Addr)(c:Nat)(fv:Value)(w:World):Z 41 #[.slice a 0 c,fv] w λe w'=>e=.returned (.bool false)/\w'=w:=by
 go_enter func41,ntmps41;go_wp2_with (go_at_call 65;refine Xr (Ru _ _ _ _) ?_);go_ret;exact⟨R,R⟩
theorem abW(w:World)(v:Value)(l:List Cl)(h:w.ownsRow 0 63 4 v l.length (l.flatMap dT))(hl:l.length<=64)(hk:∀x∈l,j7 x):Z 41 #[v,.func (.func 42) #[] #[]] w λe w'=>e=.returned (.bool false)/\Below w w w':=by
 obtain⟨L,rfl⟩:=GL l hk;rw [XAY] at h hl;rcases h.2 with⟨rfl,hn⟩|⟨g,cap,cur,rfl,-,h2,h3,h4,h5,h6⟩
 .exact(Rp none 0 _ w).mono λe w' ⟨h1,h2⟩=>⟨h1,qdq⟩
 .have eg:∀args w,(callFunc 42 args).run prog w=.ok (.enter 42 args) w:=enters_of func42 qh rfl;have hcon:=AnyQ.slices_ContainsFunc acO 4 isAgg63 sizeOf63 (λp:Ck=>dT p.x) (λ_=>rfl) (λ_=>false) 42 #[] eg g 0 L.length cap L w (RL w) (XAB _) qd (cO h R) (λj hj i u hu=>by
   have hi:i<4:=by
    rcases XAc i 4 with h|h
    .exact h
    .rw [XAd qjz] at hu;cases hu
   have e1:=GD (L.map Ck.x) j i (by rw [XAY];exact hj) hi
   have e2:(L.map Ck.x).getD j default=(L[j]!).x:=by simp [hj]
   rw [e2,hu] at e1
   rw [XAV]
   exact(kU h e1).1)
  change Z 41 _ _ _ at hcon;have e:((L.take L.length).any λ_=>false)=false:=ql
  rw [e] at hcon;exact hcon
structure Pk where
 x:Nat
 h:x<=255
instance:Inhabited Pk:=⟨⟨0,qf⟩⟩
theorem La:∀l:List Nat,(∀x∈l,x<=255)->∃L:List Pk,L.map Pk.x=l
 | [],_=>⟨[],R⟩
 |x::l,h=>by obtain⟨L,hL⟩:=La l λy hy=>h y (XBC _ hy);exact⟨⟨x,h x (XA1 ..)⟩::L,by rw [XBw,hL]⟩
theorem RM(w:World):PredAt prog 45 #[] (λp:Pk=>nV p.x) (λ_=>false) w:=λW x _=>by
 show Z 45 #[nV x.x] W λe w'=>e=.returned (.bool false)/\∃q,w'=W.drewN q;have hx:=x.h;exact(ach (x.x:Int) qd qd W).mono λe w' h=>⟨h.1,0,h.2⟩
theorem abY(w:World)(v:Value)(l:List Nat)(h:w.ownsRow 0 3 1 v l.length (l.map nV))(hl:l.length<=4096)(hk:∀x∈l,x<=255):Z 44 #[v,.func (.func 45) #[] #[]] w λe w'=>e=.returned (.bool false)/\Below w w w':=by
 obtain⟨L,rfl⟩:=La l hk;rw [XAY] at h hl;rcases h.2 with⟨rfl,hn⟩|⟨g,cap,cur,rfl,-,h2,h3,h4,h5,h6⟩
 .exact(AnyE.slices_ContainsFunc_empty D1 none 0 _ w).mono λe w' ⟨h1,h2⟩=>⟨h1,qdq⟩
 .have eg:∀args w,(callFunc 45 args).run prog w=.ok (.enter 45 args) w:=enters_of func45 qh rfl;have hcon:=AnyE.slices_ContainsFunc D1 (λp:Pk=>nV p.x) (λ_=>false) 45 #[] eg g 0 L.length cap L w (RM w) (XAB _) qd (λj hj=>by
   rw [XAV]
   refine(kU h (j:=j) ?_).1
   simp [hj])
  change Z 44 _ _ _ at hcon;have e:((L.take L.length).any λ_=>false)=false:=ql
  rw [e] at hcon;exact hcon.mono λe w' ⟨h1,q,h2⟩=>⟨h1,qhv⟩
end
section
variable{w w':World}{cb:Nat}{V:Nat->Value}{pv:Value}{s:Sc}
theorem lQ{w:World}{base:Nat}{e:TypeId}{size n:Nat}{v:Value}{xs:List Value}(h:w.ownsRow base e size v n xs):∃A c,v=.slice A n c:=by
 rcases h.2 with⟨rfl,rfl⟩|⟨g,cap,cur,rfl,-⟩
 .exact⟨_,_,R⟩
 .exact⟨_,_,R⟩
theorem abX(w:World)(h:oM w cb V pv s):Z 20 #[uw cb pv s] w λe w'=>e=.returned (I 0)/\Below w w w':=by
 have H:=XAA h;obtain⟨A,pc,rfl,hpr⟩:=Row.slice h.pk;have hc1:=h.ok.c1;have hc8:=h.ok.c8;have hn1:=h.ok.n1;have hn2:=h.ok.n2;have hpl:=h.ok.pl;obtain⟨m,hm⟩:=Xq s.P.length;rw [hm] at hpl;have HM:=XAA hm;rw [hm];clear h hpr hm;have a1:¬(4096:Int)<(m:Int):=qd
 go_enter func20,ntmps20;go_wp2_with (first|(go_at_call 40;with_reducible refine Xr (sL (s.C:Int) 1 8 qd qd _) ?_)|(go_at_call 40;with_reducible refine Xr (sL (s.n:Int) 1 1024 qd qd _) ?_));have kb:=ak.new w 27 #[nV s.C,nV s.n,.slice (cb,0) s.C s.C,.slice A m pc];have hb0:Below w w (w.alloc (.cells #[nV s.C,nV s.n,.slice (cb,0) s.C s.C,.slice A m pc] 27)):=(XAC _ w).alloc (XAB _) _;obtain⟨W,hW⟩:=Xq (w.alloc (.cells #[nV s.C,nV s.n,.slice (cb,0) s.C s.C,.slice A m pc] 27));rw [hW] at kb hb0 ⊢;clear hW;go_loopw [4,32] (λ_ i wr=>∃k:Nat,k<=s.C/\i=I k/\Below W W wr) (λ_ i _=>s.C-(intOf i).toNat)
 case atStart=>exact⟨0,XAJ _,R,XAC _ _⟩
 case round=>
  obtain⟨k,hk,rfl,hb⟩:=hrel;have hbw:=hb0.trans (hb.mono hb0.size);have W7:=kb.below hb;by_cases hlt:k<s.C
  .have t1:(k:Int)<(s.C:Int):=by omega
   have hS:=H.out.below hbw;have c1:wr.cell? (cb,k)=some (V k):=hS.row.cell k _ qeb;have hl:=H.out.ok.len k hlt;have hcl:=abW wr (V k) (s.K k) (hS.own k hlt) hl (H.out.ok.ok k hlt);obtain⟨B,c,hv⟩:=lQ (hS.own k hlt);rw [hv] at c1 hcl;have HC:=XAA hcl;have t2:¬(64:Int)<((s.K k).length:Int):=qd
   have t3:¬64<(s.K k).length:=qd;clear hcl hS;go_wp2_with (go_at_call 41;refine HC.out.mono ?_;rintro e w1 ⟨rfl,hb1⟩);go_roundw
   case rel=>exact⟨k+1,hlt,qbf,bB hb hb1⟩
   case measure=>simp [intOf];omega
  .obtain rfl:k=s.C:=by omega
   have t1:¬(s.C:Int)<(s.C:Int):=qd;have x3:wr.cell? (w.heap.size,3)=some (.slice A m pc):=W7.cell 3;have hcp:=abY wr _ s.P (H.out.below hbw).pk H.out.ok.pl H.out.ok.pk;rw [HM.out] at hcp;have HP:=XAA hcp;clear hcp;go_wp2_with (go_at_call 44;refine HP.out.mono ?_;rintro e w1 ⟨rfl,hb1⟩);go_ret;exact⟨R,bB hbw hb1⟩
end
theorem Za(w:World):Z 270 #[J 1,J 32] w λe w'=>e=.returned (.tuple #[J 0,J 32])/\w'=w:=by
 have b1:bits BinOp.and IntKind.u64 1 4294967295=1:=qco;have b2:bits BinOp.and IntKind.u64 32 4294967295=32:=qco;have b3:bits BinOp.and IntKind.u64 0 4294967295=0:=qco;go_enter func270,ntmps270;go_wp2
 go_ret2
 exact⟨ql,R⟩
theorem mul_one(w:World):Z 214 #[J 1,J 32] w λe w'=>e=.returned (.tuple #[J 0,J 32])/\w'=w:=by
 go_enter func214,ntmps214;go_wp2_with (first|(go_at_call 270;refine Xr (Za _) ?_))
 go_ret2
 exact⟨R,R⟩
theorem LA{v:Value}{cur:List Value}{bp m:Nat}(h:∀j,j<bp->cur[j]? =some v)(hf:bp+m<=cur.length):
  (splice cur bp (List.replicate m v)).length=cur.length/\∀j,j<bp+m->(splice cur bp (List.replicate m v))[j]? =some v:=by
 unfold splice;constructor
 .simp only [XAZ,XBV,XCD,XB6];omega
 .intro j hj;by_cases h1:j<bp
  .rw [XB0 qit,XDa h1];exact h j h1
  .rw [XBy qit,XB0 (by rw [XBV,XCD];omega),XEo,XAE qit]
def OK(w:World)(v:Int)(e:Ending)(w':World):Prop:=e=.returned (.slice (w.heap.size,0) 32 32)/\aG w' w.heap.size 3 (List.replicate 32 (I v))/\Below w w w'
theorem aaD(w:World)(g off c:Nat)(v:Int)(hg:w.cell? (g,off)=I v):Z 168 #[.slice (g,off) 1 c,I 32] w (OK w v):=by
 have m1:=λv=>nZ (P:=prog) 25 3 (I 0) 8 1 XBl nP .i64 .i64 32 qd qd v;have hgl:=XCQ w _ hg;have HG:=XAA hg;obtain⟨cs,hcs⟩:=Xq (madeCells #[I 0] 32);have hsz:cs.size=32:=by rw [<-hcs,size_madeCells]
 have HC:=XAA hsz;simp only [show(Value.int IntKind.i64 0).cells=#[I 0] from R,hcs,Nat.reduceMul] at m1;replace m1:∀u:World,Sem.run prog (Instr.makeSlice 25 (I 32) (I 32)) u=Result.ok (.slice (u.heap.size,0) 32 32) (u.alloc (.cells cs 3)):=m1;clear hg hsz hcs;go_enter func168,ntmps168;have HB:=XAA (show(w.alloc (.cells cs 3)).heap[w.heap.size]? =some (.cells cs.toList.toArray 3 (0,0)) by rw [Array.toArray_toList];exact ak.new w 3 cs);have HS:Hid (∀j u,([I v]:List Value)[j]? =some u->(w.alloc (.cells cs 3)).cell? ((⟨g,off,none⟩:Addr).add j)=some u):=XAA (λj u hu=>by
  have hj:j=0:=by
   rcases XAr j with h|h
   .exact h
   .rw [XAd qj] at hu;cases hu
  subst hj
  simp only [List.getElem?_cons_zero,XEN] at hu
  subst hu
  exact(XA9 w _ ⟨g,off,none⟩ hgl).trans HG.out)
 have uQ:Hid (([I v]:List Value).length=Nat.min 1 32):=XAA rfl;have uO:Hid (0+([I v]:List Value).length<=cs.toList.length):=XAA (by show 0+1<=cs.toList.length;rw [XEp,HC.out];omega);go_wp2_with (first|(go_at_call 214;refine Xr (mul_one _) ?_)|(refine wpList_copy_splice rfl (.tmp 31) (.tmp 32) 25 25 rfl 3 XBl qh _ _ 32 32 1 c rfl rfl w.heap.size 0 cs.toList 3 HB.out [I v] uQ.out (λ_=>⟨R,_,R,HS.out⟩) uO.out (λu hu=>by simp at hu;subst hu;rfl) w.heap.size w qa (XAB _) ?_;intro w2 HG2 hb2));clear m1 HB HS uQ uO;go_loopw [8,38] (λq _ wr=>∃(bp:Nat)(cur:List Value),1<=bp/\bp<=32/\q=I bp/\Hid (cur.length=32)/\Hid (∀j,j<bp->cur[j]? =I v)/\Hid (wr.heap[w.heap.size]? =some (.cells cur.toArray 3 (0,0)))/\Below w w wr) (λq _ _=>32-(intOf q).toNat)
 case atStart=>
  have h1:=LA (v:=I v) (cur:=cs.toList) (bp:=0) (m:=1) (λj hj=>absurd hj (XC_ j)) (by rw [XEp,HC.out];omega);exact⟨1,_,qd,qd,R,XAA (h1.1.trans (by rw [XEp,HC.out])),XAA h1.2,HG2,hb2⟩
 case round=>
  clear HG2 hb2;obtain⟨bp,cur,adD,hbp,rfl,HL,HV,HB,hw⟩:=hrel;have hzw:=hw.size;by_cases hlt:bp<32
  .obtain⟨m,hm⟩:=Xq (Nat.min bp (32-bp));have hm':m=min bp (32-bp):=hm.symm;have hm1:1<=m:=by omega
   have hm2:bp+m<=32:=qd;have jf:m<=bp:=qd;have uQ:Hid ((List.replicate m (I v):List Value).length=Nat.min bp (32-bp)):=XAA (by rw [XCD];exact hm.symm);have uO:Hid (bp+(List.replicate m (I v):List Value).length<=cur.length):=XAA (by rw [XCD,HL.out];omega);have HS:Hid (∀(wx:World),wx.heap[w.heap.size]? =some (.cells cur.toArray 3 (0,0))->∀j u,(List.replicate m (I v):List Value)[j]? =some u->wx.cell? ((⟨w.heap.size,0,none⟩:Addr).add j)=some u):=XAA (λwx hx j u hu=>by
    rw [XEo] at hu
    split at hu
    .rename_i hj
     obtain rfl:=XAl hu
     rw [addr_add,XAV,show wx.cell? (w.heap.size,j)=cur.toArray[j]? from ak.cell (t:=3) hx j]
     simpa using HV.out j qd
    .cases hu)
   have HN:=XAA (LA (m:=m) HV.out (by rw [HL.out];omega));have j0:(0:Int)<=(bp:Int):=qd
   have j1:(bp:Int)<32:=qd;have j2:(bp:Int)<=32:=qd;have mn:min (bp:Int) 32=(bp:Int):=qd;have hnb:¬32=bp:=qd;have j3:bp<=32:=hbp;have hwr:IntKind.i64.wrap ((bp:Int)+(m:Int))=(bp:Int)+(m:Int):=XAM _ qd;have Ff:Hid (∀u∈(List.replicate m (I v):List Value),u.oneCell'=true):=XAA (λu hu=>by rw [(XEb.1 hu).2];rfl);clear hm hm';go_wp2;go_region_law (refine step_copy_splice R (.tmp 41) (.tmp 44) 25 25 R 3 XBl qh (some ⟨w.heap.size,bp,none⟩) (some ⟨w.heap.size,0,none⟩) (32-bp) (32-bp) bp 32 (by simp [Act.eval,Act.put]) (by simp [Act.eval,Act.put]) w.heap.size bp cur 3 HB.out (List.replicate m (I v)) uQ.out (λ_=>⟨R,_,R,HS.out _ HB.out⟩) uO.out Ff.out w.heap.size w qa (XAB _) ?_;intro w4 hg4 hb4);clear hwr mn uQ uO HS Ff hnb;go_wp2;simp [Act.put];go_roundw
   case rel=>exact⟨bp+m,qd,qd,qd,splice cur bp (List.replicate m (I v)),XAA (HN.out.1.trans HL.out),XAA HN.out.2,hg4,hb4⟩
   case measure=>simp [intOf];omega
  .obtain rfl:bp=32:=by omega
   have e:cur=List.replicate 32 (I v):=by
    apply XA5;intro j;rw [XEo];split
    .rename_i hj;exact HV.out j hj
    .exact XAd (by rw [HL.out];omega)
   have HR:Hid (aG wr w.heap.size 3 (List.replicate 32 (I v))):=XAA (by
    have:=aG.jP (show ak wr w.heap.size 3 cur.toArray from HB.out)
    rw [e] at this
    exact this)
   clear HV e;go_wp2;go_ret;exact⟨R,HR.out,hw⟩
theorem aaL(n:Int)(h5:512<n)(w:World):Z 169 #[I n] w λe w'=>e=.returned (.tuple #[I 0,I 9])/\Below w w w':=by
 have a1:¬n<1:=qd;go_enter func169,ntmps169;go_wp2
 go_ret2
 exact⟨R,qa⟩
theorem aaw(n:Int)(h1:1<=n)(w:World):Z 169 #[I n] w λe w'=>∃(c:Nat)(er:Int),e=.returned (.tuple #[nV c,I er])/\(er=0->c<=9)/\Below w w w':=by
 by_cases h5:n<=512
 .exact(abV n h1 h5 w).mono λe w' ⟨c,hc,he,hb⟩=>⟨c,0,he,λ_=>hc,hb⟩
 .exact(aaL n qd w).mono λe w' ⟨he,hb⟩=>⟨0,9,he,λh=>qck,hb⟩
end Go.Proofs.YtedefgjfgdcfdaaGreatDoor
