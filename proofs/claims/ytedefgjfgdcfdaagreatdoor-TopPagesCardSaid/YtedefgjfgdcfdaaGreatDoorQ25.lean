/- Walks and laws for TopPages. -/
import Derived.Test.YtedefgjfgdcfdaaGreatDoorQ16
import Derived.StillTailTactics
import Derived.Lib.MinMax
namespace Go.Proofs.YtedefgjfgdcfdaaGreatDoor
open Go.RowKit Go.Proofs.Tryz
set_option maxRecDepth 100000
set_option maxHeartbeats 4000000
abbrev ij(a o:Int):Value:=.agg #[I a,I o]
theorem By(a:Int)(o:Nat)(ho:o<=10)(w:World):Z 92 #[ij a o] w λe w'=>e=.returned (nV (2 ^ o))/\Below w w w':=by
 have HW:=XAA (wZ o ho);go_enter func92,ntmps92;go_wp2;try rw [HW.out]
 go_ret;exact⟨R,qa⟩
theorem Gq(a:Int)(o:Nat)(ho:o<=10)(w:World):Z 188 #[ij a o] w λe w'=>e=.returned (ij (bits .xor .i64 a ((2 ^ o:Nat):Int)) o)/\Below w w w':=by
 obtain⟨N,hN⟩:=Xq (2 ^ o);have hs:=λw=>By a o ho w;rw [hN] at hs ⊢;have HS:=XAA hs;clear hs;go_enter func188,ntmps188;go_wp2;have k1:=(ak.new w 198 #[I a,I o]).alloc (.cells #[I 0,I 0] 198);have hb:Below w w ((w.alloc (.cells #[I a,I o] 198)).alloc (.cells #[I 0,I 0] 198)):=qa
 have k0:=ak.new (w.alloc (.cells #[I a,I o] 198)) 198 #[I 0,I 0];simp only [XAT] at k0;generalize hW:(w.alloc (.cells #[I a,I o] 198)).alloc (.cells #[I 0,I 0] 198)=W at k0 k1 hb ⊢;clear hW;have c0:W.cell? (w.heap.size,0)=I a:=k1.cell 0;have c1:W.cell? (w.heap.size,1)=I o:=k1.cell 1;have l1:=k1.lt;have l0:=k0.lt;(refine bN 8 (W.heap.size) ?_;intro hxc aA hxh hxn;simp only [List.take,List.drop];(repeat (go_big_quiet_step ((go_at_call 92;exact dy (HS.out _)))));refine XAG ?_;clear hxc aA hxh hxn;intro w1 hb1 hz1 hc1 hf1);go_wp2_with (refine aU R 198 _ _ R _ R R (k0.below hb1) R qh qk ?_;intro w8 aC kb8;have kc8:=kb8.cell);exact XAI (v:=ij (bits .xor .i64 a (N:Int)) o) (by simp [results,results188,go_sem,kc8]) R ⟨R,aI (hb.trans (hb1.mono hb.size)) aC (XAU _)⟩
def jT(T:Tab)(a:Nat)(p:Pg):Tab:=λj=>if j=a then p else T j
theorem ee.Lt{w:World}{g n:Nat}{T:Tab}(h:ee w g n T){i:Nat}(hi:i<n)(p:Pg):ee (((w.setCell (g,i*3) (I p.k)).setCell (g,i*3+1) (I p.o)).setCell (g,i*3+2) (I p.c)) g n (jT T i p):=by
 have h1:=((aG.set h (i*3) (I p.k)).set (i*3+1) (I p.o)).set (i*3+2) (I p.c);have e1:=nJ (n:=n) (m:=3) (F:=fA T) (G:=fA (jT T i ⟨p.k,(T i).o,(T i).c⟩)) (λ_=>rfl) (λ_=>rfl) hi (show 0<3 from qf) (v:=I p.k) (by unfold fA jT;rw [XAE rfl];rfl) (λj _ hj=>by unfold fA jT;rw [XAD hj]);have e2:=nJ (n:=n) (m:=3) (F:=fA (jT T i ⟨p.k,(T i).o,(T i).c⟩)) (G:=fA (jT T i ⟨p.k,p.o,(T i).c⟩)) (λ_=>rfl) (λ_=>rfl) hi (show 1<3 from qf) (v:=I p.o) qhp (λj _ hj=>qiz);have e3:=nJ (n:=n) (m:=3) (F:=fA (jT T i ⟨p.k,p.o,(T i).c⟩)) (G:=fA (jT T i p)) (λ_=>rfl) (λ_=>rfl) hi (show 2<3 from qf) (v:=I p.c) qhp (λj _ hj=>qiz);rw [XB5] at e1;rw [e1,e2,e3] at h1;exact h1
def si(T:Tab)(a:Nat)(p:Pg)(i:Nat):Tab:=λj=>if j=a then p else if a<j/\j<a+1+i then iw else T j
theorem YM(T:Tab)(a:Nat)(p:Pg):si T a p 0=jT T a p:=by
 funext j;unfold si jT;by_cases h:j=a
 .rw [XAE h,XAE h]
 .rw [XAD h,XAD h,XAD qd]
theorem YL(T:Tab)(a:Nat)(p:Pg)(i:Nat):jT (si T a p i) (a+1+i) iw=si T a p (i+1):=by
 funext j;show(if j=a+1+i then iw else if j=a then p else if a<j/\j<a+1+i then iw else T j)=if j=a then p else if a<j/\j<a+1+(i+1) then iw else T j;by_cases h:j=a+1+i
 .rw [XAE h,XAD qd,XAE qd]
 .rw [XAD h];by_cases h2:j=a
  .rw [XAE h2,XAE h2]
  .rw [XAD h2,XAD h2];by_cases h3:a<j/\j<a+1+i
   .rw [XAE h3,XAE qd]
   .rw [XAD h3,XAD qd]
theorem YK(T:Tab)(a o:Nat)(p:Pg):si T a { p with o:=o } (2 ^ o-1)=ir T a o p:=by
 have:=two_pos o;funext j;unfold si ir;by_cases h:j=a
 .rw [XAE h,XAE h]
 .rw [XAD h,XAD h];by_cases h3:a<j/\j<a+2 ^ o
  .rw [XAE h3,XAE qd]
  .rw [XAD h3,XAD qd]
structure cQ(w:World)(b g n:Nat)(T:Tab):Prop where
 blk:ak w b 138 #[.slice (g,0) n n]
 row:ee w g n T
 n1:1<=n
 n2:n<=1024
theorem cQ.ne{w:World}{b g n:Nat}{T:Tab}(h:cQ w b g n T):b≠g:=λe=>by
 obtain⟨cs,q,-⟩:=h.row;have q2:=h.blk;unfold ak at q q2;rw [e,q] at q2;simp at q2
theorem cQ.below{w w':World}{b g n:Nat}{T:Tab}(h:cQ w b g n T)(hb:Below w w w'):cQ w' b g n T:=⟨h.blk.below hb,h.row.below hb,h.n1,h.n2⟩
theorem zQ{w:World}{b g:Nat}{t:TypeId}{cs:Array Value}(h:ak w b t cs)(hne:b≠g)(i j l:Nat)(x y z:Value):ak (((w.setCell (g,i) x).setCell (g,j) y).setCell (g,l) z) b t cs:=((h.far (p:=⟨g,i,none⟩) hne x).far (p:=⟨g,j,none⟩) hne y).far (p:=⟨g,l,none⟩) hne z
section
variable{w w':World}{b g n:Nat}{T:Tab}
theorem vf(w:World)(h:cQ w b g n T)(a o:Nat)(ho:o<=10)(hao:a+2 ^ o<=n)(k o' c:Int):Z 93 #[(b,0),ij a o,.agg #[I k,I o',I c]] w λe w'=>
  e=.returned (.tuple #[])/\cQ w' b g n (ir T a o ⟨k,o',c⟩)/\Rws [g] w w':=by
 have hp:=pQ ho;obtain⟨N,hN⟩:=Xq (2 ^ o);have hs:=λw=>By a o ho w;rw [hN] at hs hp hao;have HS:=XAA hs;have HH:=XAA h;have hn2:=h.n2;have hr:=h.row;have gl:=aG.lt hr;have hne:=h.ne;have bl:=h.blk.lt;have HN:=XAA hN;clear hs hN h;go_enter func93,ntmps93;go_wp2;have k1:=(ak.new w 198 #[I a,I o]).alloc (.cells #[I k,I o,I c] 98);have k2:=ak.new (w.alloc (.cells #[I a,I o] 198)) 98 #[I k,I o,I c];have hb:Below w w ((w.alloc (.cells #[I a,I o] 198)).alloc (.cells #[I k,I o,I c] 98)):=qa
 simp only [XAT] at k2;generalize hW:(w.alloc (.cells #[I a,I o] 198)).alloc (.cells #[I k,I o,I c] 98)=W at k1 k2 hb ⊢;clear hW;have hB:=HH.out.below hb;have x0:W.cell? (w.heap.size,0)=I a:=k1.cell 0;have x1:W.cell? (w.heap.size,1)=I o:=k1.cell 1;have y0:W.cell? (w.heap.size+1,0)=I k:=k2.cell 0;have y1:W.cell? (w.heap.size+1,1)=I o:=k2.cell 1;have y2:W.cell? (w.heap.size+1,2)=I c:=k2.cell 2;have b0:W.cell? (b,0)=some (.slice (g,0) n n):=hB.blk.cell 0;obtain⟨p0,p1,p2⟩:=ee.at_ hB.row (show a<n from qd);have f0:=aG.frz hB.row (a*3);have f1:=aG.frz hB.row (a*3+1);have f2:=aG.frz hB.row (a*3+2);have l1:=k1.lt;have l2:=k2.lt;have gW:g<W.heap.size:=aG.lt hB.row;have bW:b<W.heap.size:=hB.blk.lt;have a1:(0:Int)<=(a:Int):=qd
 have a2:(a:Int)<(n:Int):=qd;have a3:a<n:=qd;clear k2;(refine bN 8 (W.heap.size) ?_;intro hxc aA hxh hxn;simp only [List.take,List.drop];(repeat (go_big_quiet_step (fail)));refine XAG ?_;clear hxc aA hxh hxn;intro w1 hb1 hz1 hc1 hf1);have B1:=hB.below hb1;have K1:=k1.below hb1;have hgx:w.heap.size≠g:=qd
 clear k1;go_wp2_with (go_at_call 92;refine(HS.out _).mono ?_;rintro e w3 ⟨rfl,hb3⟩);have R3:=ee.below (ee.Lt B1.row a3 ⟨k,o,c⟩) hb3;rw [<-YM] at R3;have Kb:=(zQ B1.blk hne _ _ _ _ _ _).below hb3;have Kx:=(zQ K1 hgx _ _ _ _ _ _).below hb3;have F3:Rws [g] w w3:=((((((Rws.of_below [g] hb).trans (Rws.of_below [g] hb1)).set (g:=g) ql (a*3) (I k)).set (g:=g) ql (a*3+1) (I o)).set (g:=g) ql (a*3+2) (I c)).trans (Rws.of_below [g] hb3));have n1:=HH.out.n1;clear hb hb1 hb3 hB B1 K1 hc1 hf1 hz1 p0 p1 p2 f0 f1 f2 x1 x0 y0 y1 y2 b0 l2 bW gW;go_loopw [21] (λi wr=>∃j:Nat,j<=N-1/\i=I j/\ee wr g n (si T a ⟨k,o,c⟩ j)/\ak wr b 138 #[.slice (g,0) n n]/\ak wr w.heap.size 198 #[I a,I o]/\Rws [g] w wr) (λi _=>N-(intOf i).toNat)
 case atStart=>exact⟨0,XAJ _,R,R3,Kb,Kx,F3⟩
 case round=>
  obtain⟨j,hj,rfl,r1,r2,r3,r4⟩:=hrel;by_cases hlt:j<N-1
  .have t1:(j:Int)<(N:Int)-1:=by omega
   have b0:wr.cell? (b,0)=some (.slice (g,0) n n):=r2.cell 0;have x0:wr.cell? (w.heap.size,0)=I a:=r3.cell 0;obtain⟨p0,p1,p2⟩:=ee.at_ r1 (show a+1+j<n from qd);have f0:=aG.frz r1 ((a+1+j)*3);have f1:=aG.frz r1 ((a+1+j)*3+1);have f2:=aG.frz r1 ((a+1+j)*3+2);have bw:=r2.lt;have gw:=aG.lt r1;have xw:=r3.lt;have s1:IntKind.i64.wrap ((a:Int)+1)=(a:Int)+1:=XAM _ qd;have s2:IntKind.i64.wrap ((a:Int)+1+(j:Int))=(a:Int)+1+(j:Int):=XAM _ qd;have s3:(0:Int)<=(a:Int)+1+(j:Int):=qd
   have s4:((a:Int)+1+(j:Int)).toNat=a+1+j:=qd;have s5:(a:Int)+1+(j:Int)<(n:Int):=qd;have s6:a+1+j<n:=qd;go_wp2;(refine bN 11 (wr.heap.size) ?_;intro hxc aA hxh hxn;simp only [List.take,List.drop];(repeat (go_big_quiet_step (fail)));refine XAG ?_;clear hxc aA hxh hxn;intro w1 hb1 hz1 hc1 hf1);go_wp2;clear s1 s2 s3 s4 s5 hc1 hf1 p0 p1 p2 f0 f1 f2;go_roundw
   case rel=>
    have q:=ee.Lt (r1.below hb1) s6 iw;rw [YL] at q;exact⟨j+1,qd,qbf,q,zQ (r2.below hb1) hne _ _ _ _ _ _,zQ (r3.below hb1) hgx _ _ _ _ _ _,(((r4.trans (Rws.of_below [g] hb1)).set (g:=g) ql _ _).set (g:=g) ql _ _).set (g:=g) ql _ _⟩
   case measure=>simp [intOf];omega
  .obtain rfl:j=N-1:=by omega
   have t1:¬((N-1:Nat):Int)<(N:Int)-1:=qd;go_wp2;go_end0;refine⟨R,⟨r2,?_,n1,hn2⟩,r4⟩;rw [<-HN.out,YK T a o ⟨k,o,c⟩] at r1;exact r1
end
def ik(T:Tab)(n a o:Nat):Bool:=decide (a<n) && (((T a).k==0) && (((T a).o==(o:Int)) && ((T a).c==0)))
theorem Ia{T:Tab}{n a o:Nat} :ik T n a o=true↔a<n/\T a=⟨0,o,0⟩:=by
 unfold ik;constructor
 .intro h;simp only [XAt,XB7,beq_iff_eq] at h;obtain⟨h1,h2,h3,h4⟩:=h;refine⟨h1,?_⟩;cases hT:T a;rw [hT] at h2 h3 h4;simp only at h2 h3 h4;subst h2 h3 h4;rfl
 .rintro⟨h1,h2⟩;rw [h2];simp [h1]
theorem SU(a b c x y z:Int)(w:World):(binOp .eql 98 (.agg #[I a,I b,I c]) (.agg #[I x,I y,I z])).run prog w=.ok (.bool ((a==x) && ((b==y) && (c==z)))) w:=by
 by_cases ha:a=x<;>by_cases hb:b=y<;>by_cases hc:c=z<;>simp [go_sem,ha,hb,hc]
section
variable{w w':World}{b g n:Nat}{T:Tab}
theorem yh(w:World)(h:cQ w b g n T):Z 48 #[(b,0)] w λe w'=>e=.returned (.bool false)/\w'=w:=by
 have c0:w.cell? (b,0)=some (.slice (g,0) n n):=h.blk.cell 0;have n1:((n:Int)==0)=false:=by have:=h.n1;rw [XAf];omega
 clear h;go_enter func48,ntmps48;go_wp2;go_ret;exact⟨R,R⟩
theorem Gm(w:World)(h:cQ w b g n T)(a o:Nat):Z 187 #[(b,0),ij a o] w λe w'=>e=.returned (.bool (ik T n a o))/\Below w w w':=by
 have c0:w.cell? (b,0)=some (.slice (g,0) n n):=h.blk.cell 0;have bl:=h.blk.lt;have gl:=aG.lt h.row;have hn2:=h.n2;by_cases ha:a<n
 .obtain⟨p0,p1,p2⟩:=ee.at_ h.row ha;have hq:=SU (T a).k (T a).o (T a).c 0 o 0;have e:ik T n a o=(((T a).k==0) && (((T a).o==(o:Int)) && ((T a).c==0))):=by unfold ik;rw [XAR ha];rfl
  rw [e];clear e h;have t1:(a:Int)<(n:Int):=qd
  generalize (((T a).k==0) && (((T a).o==(o:Int)) && ((T a).c==0)))=r at hq ⊢;generalize (T a).k=k at p0 hq;generalize (T a).o=oo at p1 hq;generalize (T a).c=cc at p2 hq;go_enter func187,ntmps187;go_wp2;have k1:=ak.new w 198 #[I a,I o];have hb:Below w w (w.alloc (.cells #[I a,I o] 198)):=qa
  have b0:=cell_below hb c0;replace p0:=cell_below hb p0;replace p1:=cell_below hb p1;replace p2:=cell_below hb p2;generalize w.alloc (.cells #[I a,I o] 198)=W at k1 hb b0 p0 p1 p2 ⊢;have x0:W.cell? (w.heap.size,0)=I a:=k1.cell 0;have x1:W.cell? (w.heap.size,1)=I o:=k1.cell 1;have l1:=k1.lt;have l2:b<W.heap.size:=XAH bl hb.size;have l3:g<W.heap.size:=XAH gl hb.size;(refine ba (W.heap.size) (λhxc aA hxh hxn=>?_);(repeat (go_big_quiet_step (fail)));refine XAG ?_;clear hxc aA hxh hxn;intro w1 hb1 hz1 hc1 hf1);go_wp2;go_ret;exact⟨R,hb.trans (hb1.mono hb.size)⟩
 .have e:ik T n a o=false:=by unfold ik;rw [XAS ha];rfl
  rw [e];clear e h;have t1:¬(a:Int)<(n:Int):=qd
  go_enter func187,ntmps187;go_wp2;have k1:=ak.new w 198 #[I a,I o];have hb:Below w w (w.alloc (.cells #[I a,I o] 198)):=qa
  have b0:=cell_below hb c0;generalize w.alloc (.cells #[I a,I o] 198)=W at k1 hb b0 ⊢;have x0:W.cell? (w.heap.size,0)=I a:=k1.cell 0;have x1:W.cell? (w.heap.size,1)=I o:=k1.cell 1;have l1:=k1.lt;have l2:b<W.heap.size:=XAH bl hb.size;have l3:g<W.heap.size:=XAH gl hb.size;(refine ba (W.heap.size) (λhxc aA hxh hxn=>?_);(repeat (go_big_quiet_step (fail)));refine XAG ?_;clear hxc aA hxh hxn;intro w1 hb1 hz1 hc1 hf1);go_wp2;go_ret;exact⟨R,hb.trans (hb1.mono hb.size)⟩
end
def ic(T:Tab)(n k o:Nat):Prop:=∀p a,k<=p->p<o->a<n->a % 2 ^ p=0->ik T n a p=false
def Least(T:Tab)(n k:Nat)(w:World)(e:Ending)(w':World):Prop:=
 Below w w w'/\((∃a o:Nat,e=.returned (.tuple #[ij a o,.bool true])/\k<=o/\o<=10/\a<n/\a % 2 ^ o=0/\ik T n a o=true)\/(∃q p:Int,e=.returned (.tuple #[ij q p,.bool false])/\ic T n k 11))
section
variable{w w':World}{b g n:Nat}{T:Tab}
theorem PZ(w:World)(h:cQ w b g n T)(k:Nat)(hk:k<=10):Z 222 #[(b,0),I k] w (Least T n k w):=by
 have HH:=XAA h;have bl:=h.blk.lt;have hn2:=h.n2;clear h;go_enter func222,ntmps222;go_wp2;go_step3;go_wp2;go_step3;go_wp2_with fail;have K0:=ak.new w 198 #[I 0,I 0];have hb0:Below w w (w.alloc (.cells #[I 0,I 0] 198)):=qa
 go_loopw [5,6] (λs i wr=>∃o:Nat,s=.bool false/\k<=o/\o<=11/\i=I o/\Below w w wr/\(∃q p:Int,ak wr w.heap.size 198 #[I q,I p])/\ic T n k o) (λ_ i _=>11-(intOf i).toNat)
 case atStart=>exact⟨k,R,XAB _,qd,R,hb0,⟨0,0,K0⟩,λp a h1 h2=>qd⟩
 case round=>
  obtain⟨o,rfl,ho1,ho2,rfl,hbw,⟨q,p,kx⟩,hno⟩:=hrel;have th:=XAA hno;clear hno hb0 K0;by_cases ho:o<=10
  .have t1:(o:Int)<=10:=by omega
   have hp:=pQ ho;obtain⟨N,hN⟩:=Xq (2 ^ o);have HW:=XAA (wZ o ho);rw [hN] at hp HW;go_wp2_with fail;go_loopw [5,7] (λs i wv=>∃j:Nat,s=.bool false/\j<=n+N/\i=I j/\j % N=0/\Below w w wv/\(∃q p:Int,ak wv w.heap.size 198 #[I q,I p])/\(∀a,a<j->a<n->a % N=0->ik T n a o=false)) (λ_ i _=>n+N-(intOf i).toNat)
   case atStart=>exact⟨0,R,XAJ _,R,XDM _,hbw,⟨q,p,kx⟩,λa h=>qd⟩
   case round=>
    obtain⟨j,rfl,hj,rfl,hjm,hbv,⟨q2,p2,kv⟩,Jj⟩:=hrel;have E8:=XAA Jj;have hB:=HH.out.below hbv;have b0:=hB.blk.cell 0;clear Jj;by_cases hlt:j<n
    .have t2:(j:Int)<(n:Int):=by omega
     have x0:wr.cell? (w.heap.size,0)=I q2:=kv.cell 0;have x1:wr.cell? (w.heap.size,1)=I p2:=kv.cell 1;have f0:=kv.frozen 0;have f1:=kv.frozen 1;have hb1:=(hbv.setCell (p:=⟨w.heap.size,0,none⟩) (XAB _) (I j)).setCell (p:=⟨w.heap.size,1,none⟩) (XAB _) (I o);have kz:ak ((wr.setCell (w.heap.size,0) (I j)).setCell (w.heap.size,1) (I o)) w.heap.size 198 #[I j,I o]:=(kv.aJ 0 _).aJ 1 _;have hcc:=Gm _ (HH.out.below hb1) j o;obtain⟨r,hr⟩:=Xq (ik T n j o);rw [hr] at hcc;have HR:=XAA hr;have HC:=XAA hcc;have hw:=hb1.size;clear hr hcc;cases r with
     |true=>
      go_wp2_with (go_at_call 187;refine HC.out.mono ?_;rintro e w3 ⟨rfl,hb3⟩;replace kz:=kz.below hb3;have z0:=kz.cell 0;have z1:=kz.cell 1;have g0:=kz.frozen 0;have g1:=kz.frozen 1;have hb2:=hb1.trans (hb3.mono hw));try rw [XCU]
      refine XAI (v:=.tuple #[ij j o,.bool true]) (dc R _ _ qu qu (cn 198 ((kz.aJ 0 (I j)).aJ 1 (I o)) underlying198 R qh)) R ?_;exact⟨(hb2.setCell (p:=⟨w.heap.size,0,none⟩) (XAB _) _).setCell (p:=⟨w.heap.size,1,none⟩) (XAB _) _,.inl ⟨j,o,R,ho1,ho,hlt,by rw [hN];exact hjm,HR.out⟩⟩
     |false=>
      go_wp2_with (go_at_call 187;refine HC.out.mono ?_;rintro e w3 ⟨rfl,hb3⟩;replace kz:=kz.below hb3;have hb2:=hb1.trans (hb3.mono hw));rw [HW.out,XBZ ((j:Int)+(N:Int)) ⟨qd,qd⟩];refine⟨⟨j+N,R,qd,qbf,by rw [XDp];exact hjm,hb2,⟨j,o,kz⟩,λa h1 h2 h3=>?_⟩,by simp [intOf];omega⟩;rcases (by omega:a<j\/j<=a) with h4|h4
      .exact E8.out a h4 h2 h3
      .have h5:=Nat.sub_mod_eq_zero_of_mod_eq (h3.trans hjm.symm);rw [XCn qd] at h5;obtain rfl:a=j:=by omega
       exact HR.out
    .have t2:¬(j:Int)<(n:Int):=by omega
     go_wp2_with fail;refine⟨⟨o+1,R,qd,qd,qbf,hbv,⟨q2,p2,kv⟩,λp a h1 h2 h3 h4=>?_⟩,by simp [intOf];omega⟩;by_cases hpo:p=o
     .subst hpo;exact E8.out a qd h3 (by rw [<-hN];exact h4)
     .exact th.out p a h1 qd h3 h4
  .obtain rfl:o=11:=by omega
   have t1:¬((11:Nat):Int)<=10:=qd;have x0:wr.cell? (w.heap.size,0)=I q:=kx.cell 0;have x1:wr.cell? (w.heap.size,1)=I p:=kx.cell 1;have f0:=kx.frozen 0;have f1:=kx.frozen 1;go_wp2_with fail;try rw [XCU]
   refine XAI (v:=.tuple #[ij q p,.bool false]) (dc R _ _ qu qu (cn 198 ((kx.aJ 0 (I q)).aJ 1 (I p)) underlying198 R qh)) R ?_;exact⟨(hbw.setCell (p:=⟨w.heap.size,0,none⟩) (XAB _) _).setCell (p:=⟨w.heap.size,1,none⟩) (XAB _) _,.inr ⟨q,p,R,th.out⟩⟩
end
theorem Rws.jm{gs:List Nat}{w w':World}(h:Rws gs w w'){p:Addr}(hp:w.heap.size<=p.block)(u:Value):Rws gs w (w'.setCell p u):=
 ⟨h.os,h.tape,h.output,qbj,λk hk h1=>(XAN w' p u k qd).trans (h.block k hk h1)⟩
theorem cQ.set{w:World}{b g n:Nat}{T:Tab}(h:cQ w b g n T){p:Addr}(h1:b≠p.block)(h2:g≠p.block)(u:Value):cQ (w.setCell p u) b g n T:=⟨h.blk.far h1 u,aG.far h.row h2 u,h.n1,h.n2⟩
theorem Cj{T:Tab}{n a k:Nat}{L:List (Nat × Nat)}(hL:Seg T 0 n L)(h:ik T n a k=true):∃L1 L2,Seg T 0 a L1/\Hd T a k/\(T a).k=0/\Seg T (a+2 ^ k) n L2:=by
 obtain⟨h1,h2⟩:=Ia.1 h;obtain⟨o,L1,L2,-,s1,d,s2⟩:=hL.at (XAJ _) h1 (by rw [h2];exact(by decide:(0:Int)≠1));have:=d.ord;rw [h2] at this;have e:k=o:=by have:(k:Int)=o:=this;omega
 subst e;exact⟨L1,L2,s1,d,by rw [h2],s2⟩
def vj(w:World)(b i:Nat):Nat:=match w.cell? (b,i) with
 |some v=>(intOf v).toNat
 |none=>0
theorem oO{w:World}{b i:Nat}{x:Nat}(h:w.cell? (b,i)=I x):vj w b i=x:=by unfold vj;rw [h];simp [intOf]
def Ev(w:World)(b g n:Nat)(T:Tab)(o c:Nat)(e:Ending)(w':World):Prop:=
 (e=.returned (.tuple #[I 0,I 7])/\Below w w w'/\ic T n o 11)\/
 (∃(a:Nat)(T':Tab),e=.returned (.tuple #[nV a,I 0])/\cQ w' b g n T'/\Rws [g] w w'/\ot T n o c a T')
section
variable{w w':World}{b g n:Nat}{T:Tab}
theorem PY(w:World)(h:cQ w b g n T)(L:List (Nat × Nat))(hL:Seg T 0 n L)(o c:Nat)(ho:o<=10)(hc:c<=8):Z 195 #[(b,0),I o,I c] w (Ev w b g n T o c):=by
 have HH:=XAA h;have bl:=h.blk.lt;have gl:=aG.lt h.row;have hls:=PZ w h o ho;have HL:=XAA hls;have HS:=XAA hL;have a1:¬(o:Int)<0:=qd
 have a2:¬(10:Int)<(o:Int):=qd;have a3:¬(c:Int)<0:=qd;have a4:¬(8:Int)<(c:Int):=qd;clear h hls hL;go_enter func195,ntmps195;go_wp2_with (first|(go_at_call 48;refine Xr (yh _ HH.out) ?_)|(go_at_call 222;refine HL.out.mono ?_;rintro e w1 ⟨hb1,⟨a,k,rfl,hok,hk10,han,hal,hfr⟩|⟨q,p,rfl,hno⟩⟩))
 .have HF:=XAA hfr;have hn2:=HH.out.n2;have kx:=ak.new w1 198 #[I a,I k];have hsz:=hb1.size;have hB0:=HH.out.below (hb1.alloc hsz (.cells #[I a,I k] 198));have hR0:Rws [g] w (w1.alloc (.cells #[I a,I k] 198)):=Rws.of_below [g] (hb1.alloc hsz _);have hbx:b≠w1.heap.size:=by omega
  have hgx:g≠w1.heap.size:=qd;have HK:Hid (a % 2 ^ k=0):=XAA hal;clear hfr hal;go_loopw [] (λwr=>∃(p:Nat)(T1:Tab),o<=p/\p<=k/\ak wr w1.heap.size 198 #[I a,I p]/\cQ wr b g n T1/\Cutting T T1 a k p/\Rws [g] w wr) (λwr=>vj wr w1.heap.size 1)
  case atStart=>exact⟨k,T,hok,XAB _,kx,hB0,Cutting.refl T a k,hR0⟩
  case round=>
   obtain⟨p,T1,hop,hpk,kp,hB,hcut,hR⟩:=hrel;have x0:wr.cell? (w1.heap.size,0)=I a:=kp.cell 0;have f1:=kp.frozen 1;have lx:=kp.lt;by_cases hlt:o<p
   .obtain⟨m,rfl⟩:∃m,p=m+1:=⟨p-1,qd⟩;have x1:wr.cell? (w1.heap.size,1)=I ((m:Int)+1):=kp.cell 1;have HX:=XAA (kp.cell 1);have t1:(o:Int)<(m:Int)+1:=by omega
    have CE:=vd HK.out hpk;have sa:m<=10:=qd
    have hot:=λw=>Gq (a:Int) m sa w;have ha1:a<1024:=qd
    rw [Mi m a sa ha1 (vd CE (XAU m)),XAE CE,<-XDb] at hot;have hcs:=hcut.step hk10 HK.out;have yG:a+2 ^ m+2 ^ m<=n:=by obtain⟨L1,L2,s1,d1,d2,s2⟩:=Cj HS.out HF.out;have:=s2.le;have:=wO hpk;have:=zy (k:=m);omega
    obtain⟨M,hM⟩:=Xq (a+2 ^ m);rw [hM] at hot hcs yG;have HO:=XAA hot;have HC:=XAA hcs;have kq:ak (wr.setCell (w1.heap.size,1) (I m)) w1.heap.size 198 #[I a,I m]:=kp.aJ 1 _;have VI:=hB.set (p:=⟨w1.heap.size,1,none⟩) hbx hgx (I m);have VO:=Rws.jm hR (p:=⟨w1.heap.size,1,none⟩) hsz (I m);clear hot hcs CE hM;go_wp2_with (first|(go_at_call 188;refine(HO.out _).mono ?_;rintro e w2 ⟨rfl,hb2⟩)|(go_at_call 93;refine(vf _ (VI.below hb2) M m sa yG 0 0 0).mono ?_;rintro e w3 ⟨rfl,hB3,mG⟩));refine⟨⟨m,_,qd,qd,(kq.below hb2).rws mG qj,hB3,HC.out,(VO.trans (Rws.of_below [g] hb2)).trans mG⟩,?_⟩;rw [oO (((kq.below hb2).rws mG qj).cell 1),oO HX.out];omega
   .obtain rfl:p=o:=by omega
    have x1:wr.cell? (w1.heap.size,1)=I p:=kp.cell 1;have t1:¬(p:Int)<(p:Int):=qd
    have yG:a+2 ^ p<=n:=by obtain⟨L1,L2,s1,d1,d2,s2⟩:=Cj HS.out HF.out;have:=s2.le;have:=wO hpk;omega
    have HC:=XAA hcut;clear hcut;go_wp2_with (first|(go_at_call 93;refine(vf _ hB a p ho yG 2 0 c).mono ?_;rintro e w3 ⟨rfl,hB3,mG⟩;have y0:=(kp.rws mG qj).cell 0))
    go_ret2
    obtain⟨L1,L2,s1,d1,d2,s2⟩:=Cj HS.out HF.out;exact .inr ⟨a,_,R,hB3,hR.trans mG,k,T1,⟨L1,s1⟩,d1,d2,⟨L2,s2⟩,HC.out,R⟩
 .go_ret2
  exact .inl ⟨R,hb1.alloc hb1.size _,hno⟩
end
def rG(a p:Nat):Nat:=if a % 2 ^ (p+1)=0 then a+2 ^ p else a-2 ^ p
theorem Gy{a p:Nat}(h:a % 2 ^ p=0)(h2:¬a % 2 ^ (p+1)=0):2 ^ p<=a:=by
 rcases XAc a (2 ^ p) with h3|h3
 .rw [XCn h3] at h;subst h;exact absurd (XDM _) h2
 .exact h3
theorem Qv{a p:Nat}(hp:p<=10)(ha:a<1024)(h:a % 2 ^ p=0):bits .xor .i64 (a:Int) ((2 ^ p:Nat):Int)=(rG a p:Int):=by
 rw [Mi p a hp ha h];unfold rG;by_cases h2:a % 2 ^ (p+1)=0
 .rw [XAE h2,XAE h2,XDb]
 .rw [XAD h2,XAD h2,Int.natCast_sub (Gy h h2)]
theorem Qu{a p:Nat}(hp:p<=10)(ha:a<1024)(h:a % 2 ^ p=0)(w:World):Z 188 #[ij a p] w λe w'=>e=.returned (ij (rG a p) p)/\Below w w w':=by
 have:=Gq (a:Int) p hp w;rw [Qv hp ha h] at this;exact this
theorem gx.more{T:Tab}{n page a p:Nat}(h:gx T n page a p)(hp:p<10)(hf:ik T n (rG a p) p=true):gx T n page (min a (rG a p)) (p+1):=by
 obtain⟨h1,h2⟩:=Ia.1 hf;have hpp:=two_pos p;unfold rG at*;by_cases h3:a % 2 ^ (p+1)=0
 .rw [XAE h3] at h1 h2 ⊢;rw [XC9 qd];exact h.up h3 h2 h1 hp
 .rw [XAD h3] at h1 h2 ⊢;have h4:=Gy h.al h3;rw [Nat.min_eq_right qd];obtain⟨y,hy⟩:∃y,a=y+2 ^ p:=⟨a-2 ^ p,qd⟩;subst hy;rw [Nat.add_sub_cancel] at h1 h2 ⊢;refine h.down ?_ h2 hp;have h5:y % 2 ^ p=0:=by have:=h.al;rwa [XDp] at this
  have h6:y % 2 ^ (p+1)=y % 2 ^ p+2 ^ p*(y / 2 ^ p % 2):=by rw [XCp];exact Nat.mod_mul
  have h7:(y+2 ^ p) % 2 ^ (p+1)=(y+2 ^ p) % 2 ^ p+2 ^ p*((y+2 ^ p) / 2 ^ p % 2):=by rw [XCp];exact Nat.mod_mul
  rw [XDp,h5,Nat.add_div_right _ hpp,XAV] at h7;rw [h5,XAV] at h6;rcases Nat.mod_two_eq_zero_or_one (y / 2 ^ p) with h8|h8
  .rw [h6,h8,Nat.mul_zero]
  .exfalso;apply h3;rw [h7];have:(y / 2 ^ p).succ % 2=0:=by omega
   rw [this,Nat.mul_zero]
theorem Ue(y q:Int)(w:World):(Instr.field 198 (ij y q) 0).run prog w=.ok (I y) w:=qh
def Mx(w:World)(b g n:Nat)(T:Tab)(p:Nat)(e:Ending)(w':World):Prop:=∃T',e=.returned (I 0)/\cQ w' b g n T'/\Rws [g] w w'/\Av T n p T'
section
variable{w w':World}{b g n:Nat}{T:Tab}
theorem Gl(w:World)(h:cQ w b g n T)(L:List (Nat × Nat))(hL:Seg T 0 n L)(p:Nat)(hp:p<n)(hk:(T p).k=2):Z 135 #[(b,0),I p] w (Mx w b g n T p):=by
 have HH:=XAA h;have bl:=h.blk.lt;have gl:=aG.lt h.row;have hn2:=h.n2;have b0:w.cell? (b,0)=some (.slice (g,0) n n):=h.blk.cell 0;obtain⟨p0,p1,p2⟩:=ee.at_ h.row hp;obtain⟨o,ho,hgr⟩:=gx.begin hL hp hk;rw [hk] at p0;rw [ho] at p1;have HG:=XAA hgr;have a1:¬(p:Int)<0:=qd
 have a2:¬(n:Int)<=(p:Int):=qd;have a3:¬n<=p:=qd;clear h hL hk ho hgr;go_enter func135,ntmps135;go_wp2_with (first|(go_at_call 48;refine Xr (yh _ HH.out) ?_));have kx:=ak.new w 198 #[I p,I o];have hB0:=HH.out.below ((XAC _ w).alloc (XAB _) (.cells #[I p,I o] 198));have hR0:Rws [g] w (w.alloc (.cells #[I p,I o] 198)):=Rws.of_below [g] ((XAC _ w).alloc (XAB _) _);have hbx:b≠w.heap.size:=qd
 have hgx:g≠w.heap.size:=qd;clear b0 p0 p1 p2;go_loopw [] (λwr=>∃(a q:Nat),gx T n p a q/\ak wr w.heap.size 198 #[I a,I q]/\cQ wr b g n T/\Rws [g] w wr) (λwr=>10-vj wr w.heap.size 1)
 case atStart=>exact⟨p,o,HG.out,kx,hB0,hR0⟩
 case round=>
  obtain⟨a,q,hgr,kp,hB,hR⟩:=hrel;have x0:wr.cell? (w.heap.size,0)=I a:=kp.cell 0;have x1:wr.cell? (w.heap.size,1)=I q:=kp.cell 1;have HX:=XAA (kp.cell 1);have hq10:=hgr.k10;have han:a+2 ^ q<=n:=by obtain⟨L,hL⟩:=hgr.behind;exact hL.le
  have hap:=two_pos q;have HA:=XAA hgr;have lx:=kp.lt;have HO:=XAA (λw=>Qu (a:=a) hq10 qd hgr.al w);clear hgr;by_cases hq:q<10
  .have t1:(q:Int)<10:=by omega
   obtain⟨y,hy⟩:=Xq (rG a q);obtain⟨r,hr⟩:=Xq (ik T n y q);rw [hy] at HO;have HY:=XAA hy;have HF:=XAA (λw1 (hb:Below wr wr w1)=>(hr ▸ Gm w1 (hB.below hb) y q:Z 187 #[(b,0),ij y q] w1 λe w'=>e=.returned (.bool r)/\Below w1 w1 w'));have HR:=XAA hr;clear hy hr;cases r with
   |true=>
    go_wp2_with (first|(go_at_call 188;(with_reducible refine(HO.out _).mono ?_);rintro e w2 ⟨rfl,hb2⟩)|(go_at_call 187;refine(HF.out _ hb2).mono ?_;rintro e w3 ⟨rfl,hb3⟩));have hbw:=bB hb2 hb3;replace kp:=kp.below hbw;replace hB:=hB.below hbw;have l3:=kp.lt;have y0:w3.cell? (w.heap.size,0)=I a:=kp.cell 0;have y1:w3.cell? (w.heap.size,1)=I q:=kp.cell 1;have z0:=kp.frozen 0;have z1:=kp.frozen 1;have wq:IntKind.i64.wrap ((q:Int)+1)=(q:Int)+1:=XAM _ qd;have hfl:=Ue (y:Int) (q:Int);clear x0 x1 hb2 hb3;(refine bN 10 (w3.heap.size) ?_;intro hxc aA hxh hxn;simp only [List.take,List.drop];(repeat (first|go_big_quiet_step ((go_at_call 188;with_reducible exact dy (HO.out _)))|quiet_step ((go_at_call 188;with_reducible exact dy (HO.out _)))|(refine XBS (λK hK=>?_);go_simp;refine hK _ ?_;clear hK K)));refine XAG ?_;clear hxc aA hxh hxn;intro w1 hb1 hz1 hc1 hf1);have kq:ak ((w1.setCell (w.heap.size,0) (I (min (a:Int) (y:Int)))).setCell (w.heap.size,1) (I ((q:Int)+1))) w.heap.size 198 #[I ((min a y:Nat):Int),I ((q+1:Nat):Int)]:=by have:=((kp.below hb1).aJ 0 (I (min (a:Int) (y:Int)))).aJ 1 (I ((q:Int)+1));rw [show((min a y:Nat):Int)=min (a:Int) (y:Int) from qd];exact this
    go_wp2;refine⟨⟨min a y,q+1,?_,kq,((hB.below hb1).set hbx hgx _).set hbx hgx _,Rws.jm (Rws.jm ((hR.trans (Rws.of_below [g] hbw)).trans (Rws.of_below [g] hb1)) (p:=⟨w.heap.size,0,none⟩) (XAB _) _) (p:=⟨w.heap.size,1,none⟩) (XAB _) _⟩,?_⟩
    .have:=HA.out.more hq (by rw [HY.out];exact HR.out);rw [HY.out] at this;exact this
    .rw [oO (kq.cell 1),oO HX.out];omega
   |false=>
    go_wp2_with (first|(go_at_call 188;refine(HO.out _).mono ?_;rintro e w2 ⟨rfl,hb2⟩)|(go_at_call 187;refine(HF.out _ hb2).mono ?_;rintro e w3 ⟨rfl,hb3⟩;have hbw:=bB hb2 hb3;replace kp:=kp.below hbw;replace hB:=hB.below hbw;have y0:=kp.cell 0;have y1:=kp.cell 1)|(go_at_call 93;refine(vf _ hB a q hq10 han 0 0 0).mono ?_;rintro e w4 ⟨rfl,hB4,o5⟩));go_ret;exact⟨_,R,hB4,(hR.trans (Rws.of_below [g] hbw)).trans o5,a,q,HA.out,R⟩
  .have t1:¬(q:Int)<10:=by omega
   go_wp2_with (first|(go_at_call 93;refine(vf _ hB a q hq10 han 0 0 0).mono ?_;rintro e w4 ⟨rfl,hB4,o5⟩));go_ret;exact⟨_,R,hB4,hR.trans o5,a,q,HA.out,R⟩
end
theorem PC(o a:Nat)(h:o<=10)(ha:a<1024):(bits .and .i64 (a:Int) (((2 ^ o:Nat):Int)-1) !=0)= !(a % 2 ^ o==0):=by
 rw [bne,F5 o a h ha]
def lB(T:Tab)(a:Nat):Prop:=∃L,Seg T 0 a L/\∀x∈L,(T x.1).k=0
def Mz(w:World)(b g n:Nat)(e:Ending)(w':World):Prop:=e=.returned (.tuple #[])/\∃T',cQ w' b g n T'/\lB T' n/\Rws [g] w w'
theorem lB.more{T:Tab}{a p:Nat}(h:lB T a)(hp:p<=10)(hal:a % 2 ^ p=0):lB (ir T a p ⟨0,0,0⟩) (a+2 ^ p):=by
 obtain⟨L,hs,hk⟩:=h;refine⟨L++ [(a,p)],(hs.congr λi _ hi=>sj (.inl hi)).append (.cons (y8 hp (.inl ⟨R,R⟩) hal) (.nil _)),λx hx=>?_⟩;rcases XAe.1 hx with h1|h1
 .obtain⟨-,h2,h3⟩:=hs.mem h1;have:=two_pos x.2;rw [sj (.inl qd)];exact hk x h1
 .rw [XA2.1 h1];show(ir T a p ⟨0,0,0⟩ a).k=0;rw [y_]
section
variable{w w':World}{b g n:Nat}{T:Tab}
theorem P4(w:World)(h:cQ w b g n T):Z 67 #[(b,0)] w (Mz w b g n):=by
 have HH:=XAA h;have bl:=h.blk.lt;have gl:=aG.lt h.row;have hn2:=h.n2;clear h;go_enter func67,ntmps67;go_wp2;go_loopw [2] (λi wr=>∃(a:Nat)(T1:Tab),a<=n/\i=I a/\cQ wr b g n T1/\lB T1 a/\Rws [g] w wr) (λi _=>n-(intOf i).toNat)
 case atStart=>exact⟨0,T,XAJ _,R,HH.out,⟨[],.nil _,λx hx=>(by cases hx)⟩,Rws.refl _ _⟩
 case round=>
  obtain⟨a,T1,han,rfl,hB,hW,hR⟩:=hrel;have b0:wr.cell? (b,0)=some (.slice (g,0) n n):=hB.blk.cell 0;have HW:=XAA hW;clear hW;by_cases hlt:a<n
  .have t1:(a:Int)<(n:Int):=by omega
   have hwl:=hR.size;have kx:=ak.new wr 198 #[I a,I 10];have hB1:=hB.below ((XAC _ wr).alloc (XAB _) (.cells #[I a,I 10] 198));have hR1:Rws [g] w (wr.alloc (.cells #[I a,I 10] 198)):=hR.trans (Rws.of_below [g] ((XAC _ wr).alloc (XAB _) _));go_wp2_with fail;have hbB:b≠wr.heap.size:=qd
   have hgB:g≠wr.heap.size:=qd;generalize wr.heap.size=B at kx hwl hbB hgB ⊢;go_loopw [] (λwv=>∃p:Nat,p<=10/\ak wv B 198 #[I a,I p]/\cQ wv b g n T1/\Rws [g] w wv) (λwv=>vj wv B 1)
   case atStart=>exact⟨10,XAB _,kx,hB1,hR1⟩
   case round=>
    obtain⟨p,vX,kp,vG,CD⟩:=hrel;have x0:wr.cell? (B,0)=I a:=kp.cell 0;have x1:wr.cell? (B,1)=I p:=kp.cell 1;have f1:=kp.frozen 1;have HX:=XAA (kp.cell 1);have c0:wr.cell? (b,0)=some (.slice (g,0) n n):=vG.blk.cell 0;have l1:=kp.lt;have l2:=vG.blk.lt;have hpw:=pQ vX;have hne:=PC p a vX qd;obtain⟨N,hN⟩:=Xq (2 ^ p);have hsz:=λw=>By (a:Int) p vX w;rw [hN] at hsz hne hpw;have HS:=XAA hsz;have HN:=XAA hN;clear hsz hN;by_cases hal:a % N=0
    .have hne':(bits .and .i64 (a:Int) ((N:Int)-1) !=0)=false:=by rw [hne,hal];rfl
     have HL:=XAA hal;clear hne hal;by_cases hfit:a+N<=n
     .have s0:IntKind.i64.wrap ((N:Int)-1)=(N:Int)-1:=XAM _ qd;have s1:IntKind.i64.wrap ((a:Int)+(N:Int))=(a:Int)+(N:Int):=XAM _ qd;have s2:¬(n:Int)<(a:Int)+(N:Int):=by omega
      go_wp2_with fail;(refine ba (wr.heap.size) (λhxc aA hxh hxn=>?_);(repeat (go_big_quiet_step ((go_at_call 92;with_reducible exact dy (HS.out _)))));refine XAG ?_;clear hxc aA hxh hxn;intro w1 hb1 hz1 hc1 hf1);have hB1:=vG.below hb1;have k1:=kp.below hb1;clear s0 s1;go_wp2_with (first|(go_at_call 93;refine(vf _ hB1 a p vX (HN.out ▸ hfit) 0 0 0).mono ?_;rintro e w2 ⟨rfl,hB2,hR2⟩;have k2:=k1.rws hR2 qj;have y0:=k2.cell 0;have y1:=k2.cell 1)|(go_at_call 92;(with_reducible refine(HS.out _).mono ?_);rintro e w3 ⟨rfl,hb3⟩));go_roundw
      case rel=>exact⟨a+N,_,hfit,qbf,hB2.below hb3,by have:=HW.out.more vX (by rw [HN.out];exact HL.out);rwa [HN.out] at this,((CD.trans (Rws.of_below [g] hb1)).trans hR2).trans (Rws.of_below [g] hb3)⟩
      case measure=>simp [intOf];omega
     .skip
      have hp0:p≠0:=λe=>by subst e;have:=HN.out;simp at this;omega
      obtain⟨m,rfl⟩:∃m,p=m+1:=⟨p-1,qd⟩;have x1':wr.cell? (B,1)=I ((m:Int)+1):=x1;have AQ:Hid (∀w:World,Z 92 #[ij (a:Int) ((m:Int)+1)] w λe w'=>e=.returned (nV N)/\Below w w w'):=XAA HS.out;have s0:IntKind.i64.wrap ((N:Int)-1)=(N:Int)-1:=XAM _ qd;have s1:IntKind.i64.wrap ((a:Int)+(N:Int))=(a:Int)+(N:Int):=XAM _ qd;have s2:(n:Int)<(a:Int)+(N:Int):=qd
      have sa:m<=10:=qd;clear x1;go_wp2_with fail;(refine ba (wr.heap.size) (λhxc aA hxh hxn=>?_);(repeat (go_big_quiet_step ((go_at_call 92;exact dy (AQ.out _)))));refine XAG ?_;clear hxc aA hxh hxn;intro w1 hb1 hz1 hc1 hf1);have kq:ak (w1.setCell (B,1) (I m)) B 198 #[I a,I m]:=(kp.below hb1).aJ 1 _;clear s0 s1;go_wp2_with fail;refine⟨⟨m,sa,kq,(vG.below hb1).set hbB hgB _,Rws.jm (CD.trans (Rws.of_below [g] hb1)) hwl _⟩,?_⟩;rw [oO (kq.cell 1),oO HX.out];omega
    .have hne':(bits .and .i64 (a:Int) ((N:Int)-1) !=0)=true:=by rw [hne,XAf.2 hal];rfl
     have HL:=XAA hal;clear hne hal;have hp0:p≠0:=λe=>by subst e;have:=HN.out;simp at this;exact HL.out (by rw [<-this];exact Nat.mod_one a)
     obtain⟨m,rfl⟩:∃m,p=m+1:=⟨p-1,qd⟩;have x1':wr.cell? (B,1)=I ((m:Int)+1):=x1;have AQ:Hid (∀w:World,Z 92 #[ij (a:Int) ((m:Int)+1)] w λe w'=>e=.returned (nV N)/\Below w w w'):=XAA HS.out;have s0:IntKind.i64.wrap ((N:Int)-1)=(N:Int)-1:=XAM _ qd;have s1:IntKind.i64.wrap ((a:Int)+(N:Int))=(a:Int)+(N:Int):=XAM _ qd;have sa:m<=10:=qd
     clear x1;go_wp2_with fail;(refine ba (wr.heap.size) (λhxc aA hxh hxn=>?_);(repeat (go_big_quiet_step ((go_at_call 92;exact dy (AQ.out _)))));refine XAG ?_;clear hxc aA hxh hxn;intro w1 hb1 hz1 hc1 hf1);have kq:ak (w1.setCell (B,1) (I m)) B 198 #[I a,I m]:=(kp.below hb1).aJ 1 _;clear s0 s1;go_wp2_with fail;refine⟨⟨m,sa,kq,(vG.below hb1).set hbB hgB _,Rws.jm (CD.trans (Rws.of_below [g] hb1)) hwl _⟩,?_⟩;rw [oO (kq.cell 1),oO HX.out];omega
  .obtain rfl:a=n:=by omega
   have t1:¬(a:Int)<(a:Int):=qd;go_wp2_with fail;go_end0;exact⟨R,T1,hB,HW.out,hR⟩
end
theorem JC:(prog.info? 98).map (λi=>(i.zero,i.size,i.bytes))=some (some (.agg #[I 0,I 0,I 0]),3,24):=qh
theorem K_(n:Nat):(madeCells #[I 0,I 0,I 0] (n*3)).toList=bM n (fA λ_=>⟨0,0,0⟩):=by
 apply XA5;intro j;rw [XBO];have hl:=oZ (m:=3) (F:=fA λ_=>⟨0,0,0⟩) (λ_=>rfl) n;by_cases hj:j<n*3
 .rw [ug hj qf];have e:j=j / 3*3+j % 3:=by omega
  have h1:=kN (m:=3) (F:=fA λ_=>⟨0,0,0⟩) (λ_=>rfl) n (j / 3) (j % 3) qd (XAj _ qf);rw [<-e] at h1;rw [h1];have h2:j % 3<3:=XAj _ qf;rcases (by omega:j % 3=0\/j % 3=1\/j % 3=2) with h|h|h<;>simp [h,fA]
 .rw [XAz qed,XAd qd]
def My(w:World)(n:Nat)(e:Ending)(w':World):Prop:=∃b g T,e=.returned (.tuple #[(b,0),I 0])/\cQ w' b g n T/\lB T n/\w.heap.size<=b/\w.heap.size<=g/\Below w w w'
theorem P1(w:World)(n:Nat)(h1:1<=n)(h2:n<=1024):Z 47 #[I n] w (My w n):=by
 have m1:=λv=>nZ (P:=prog) 93 98 (.agg #[I 0,I 0,I 0]) 24 3 XEg JC .i64 .i64 n qd qd v;have a1:¬(n:Int)<1:=qd
 have a2:¬(1024:Int)<(n:Int):=qd;have hB:cQ ((w.alloc (.cells (madeCells #[I 0,I 0,I 0] (n*3)) 98)).alloc (.cells #[.slice (w.heap.size,0) n n] 138)) (w.heap.size+1) w.heap.size n (λ_=>⟨0,0,0⟩):=by refine⟨ak.new2 _ _ _ _,?_,h1,h2⟩;have h6:=aG.jP ((ak.new w 98 (madeCells #[I 0,I 0,I 0] (n*3))).alloc (.cells #[.slice (w.heap.size,0) n n] 138));rw [K_] at h6;exact h6
 go_enter func47,ntmps47;go_wp2_with (go_at_call 67;refine(P4 _ hB).mono ?_;rintro e w2 ⟨rfl,T',hB2,hW2,hR2⟩)
 go_ret2
 exact⟨_,_,T',R,hB2,hW2,XAU _,XAB _,Rws.below hR2 qa ql qj⟩
section
variable{w w':World}{b g n:Nat}{T:Tab}
theorem P0(w:World)(h:cQ w b g n T)(L:List (Nat × Nat))(hL:Seg T 0 n L):Z 33 #[(b,0)] w λe w'=>e=.returned (nV (dJ (jb T) L))/\Below w w w':=by
 have hf:=Uf w g n n T h.row L hL h.n1 h.n2 (XAB _);have b0:w.cell? (b,0)=some (.slice (g,0) n n):=h.blk.cell 0;generalize dJ (jb T) L=s at hf ⊢;have HF:=XAA hf;have HH:=XAA h;clear h hf hL;go_enter func33,ntmps33;go_wp2_with (first|(go_at_call 48;refine Xr (yh _ HH.out) ?_)|(go_at_call 55;refine HF.out.mono ?_;rintro e w1 ⟨rfl,hb1⟩));go_ret;exact⟨R,hb1⟩
def Ew(w:World)(n:Nat)(T:Tab)(e:Ending)(w':World):Prop:=∃g cap,e=.returned (.slice (g,0) n cap)/\n<=cap/\ee w' g n T/\Below w w w'
theorem P2(w:World)(h:cQ w b g n T):Z 30 #[(b,0)] w (Ew w n T):=by
 obtain⟨i0,I0,I1,I2,I3⟩:=XA4 JC;have hl:=oZ (m:=3) (F:=fA T) (λ_=>rfl) n;have n1:=h.n1;have n2:=h.n2;have hc:=AnyE.slices_Clone acP i0 (.agg #[I 0,I 0,I 0]) 3 24 I0 I1 I2 I3 R qf sizeOf98 g 0 n n (bM n (fA T)) w hl qw qd
  (λj u hu=>by rw [XAV];exact aG.cell h.row j u hu) (λu hu=>by
   unfold bM at hu
   obtain⟨i,-,hi⟩:=XCi.1 hu
   simp only [fA,zu,XBD,XBn,XCZ] at hi
   rcases hi with rfl|rfl|rfl<;>rfl)
 change Z 49 _ _ _ at hc;have hc':Z 49 #[.slice (g,0) n n] w (Ew w n T):=hc.mono λe w' ⟨v',e1,ho,_,hb⟩=>by
  obtain⟨k,hk⟩:∃k,n=k+1:=⟨n-1,qd⟩;have ho2:=ho;rw [hk] at ho;obtain⟨g',cap,rfl⟩:=ownsRow_succ ho;rw [<-hk] at ho e1;refine⟨g',cap,e1,?_,?_,hb⟩
  .have ho3:=(own_base ho2).1;rw [<-hk] at ho3;exact lP ho3
  .rcases ho2.2 with⟨h0,-⟩|⟨g2,cap2,cur,h0,-,h3,-,-,-,h4⟩
   .cases h0
   .injection h0 with h0 _ _;injection h0 with h0;injection h0 with h0;subst h0;exact⟨cur,h3,by rw [hl];exact h4⟩
 have b0:w.cell? (b,0)=some (.slice (g,0) n n):=h.blk.cell 0;have HF:=XAA hc';have HH:=XAA h;clear h hc hc' hl;go_enter func30,ntmps30;go_wp2_with (first|(go_at_call 48;refine Xr (yh _ HH.out) ?_)|(go_at_call 49;refine HF.out.mono ?_;rintro e w1 ⟨g1,cap1,rfl,h1,h2,h3⟩));go_ret;exact⟨g1,cap1,R,h1,h2,h3⟩
end
structure i_ where
 zb:Nat
 bb:Nat
 g:Nat
 nb:Nat
 lb:Nat
 cm:Nat
 C:Nat
 n:Nat
structure aR(cl:Nat->Nat)(w:World)(A:i_)(T:Tab)(L:Nat->List Nat)(F:Int->Option Int)(q:Nat):Prop where
 blk:ak w A.zb 92 #[(A.bb,0),.pointer (A.nb,0),I A.C,I A.n,.map (some A.cm)]
 bd:cQ w A.bb A.g A.n T
 nr:∃V,cI cl 62 w A.nb A.lb A.C L V
 mp:bR (Value.int .i64) prog 3 w A.cm q F
 all:OU T A.n (bC A.C L) F
 cz:cl A.zb=61
 cb:cl A.bb=61
 cg:cl A.g=64
 cc:cl A.cm=63
 qb:q<=1000000
section
variable{cl aD:Nat->Nat}{w w':World}{A:i_}{T:Tab}{L:Nat->List Nat}{F:Int->Option Int}{q k:Nat}{js:List Nat}
theorem cQ.md{b g n:Nat}(h:cQ w b g n T)(hm:Md cl js w w')(h1:cl b∉js)(h2:cl g∉js):cQ w' b g n T:=⟨hm.blk h.blk h1,hm.row h.row h2,h.n1,h.n2⟩
theorem aR.md(h:aR cl w A T L F q)(hm:Md cl js w w')(h1:61∉js)(h2:62∉js)(h3:63∉js)(h4:64∉js):aR cl w' A T L F q:=
 ⟨hm.blk h.blk (by rw [h.cz];exact h1),h.bd.md hm (by rw [h.cb];exact h1) (by rw [h.cg];exact h4),h.nr.imp λ_ x=>x.md hm h2,h.mp.heap (hm.block _ h.mp.lt (by rw [h.cc];exact h3)),h.all,h.cz,h.cb,h.cg,h.cc,h.qb⟩
theorem aR.cls(h:aR cl w A T L F q)(he:∀k,k<w.heap.size->aD k=cl k):aR aD w A T L F q:=
 ⟨h.blk,h.bd,h.nr.imp λ_ x=>x.cls he,h.mp,h.all,(he _ h.blk.lt).trans h.cz,(he _ h.bd.blk.lt).trans h.cb,(he _ (aG.lt h.bd.row)).trans h.cg,(he _ h.mp.lt).trans h.cc,h.qb⟩
theorem aR.below(h:aR cl w A T L F q)(hb:Below w w w'):aR cl w' A T L F q:=h.md (Md.of_below cl [] hb) ql ql ql ql
theorem Ap(w:World)(h:aR cl w A T L F q)(hk:k<A.C):Z 29 #[(A.zb,0),I k] w λe w'=>e=.returned (I 0)/\w'=w:=by
 have z2:w.cell? (A.zb,2)=I A.C:=h.blk.cell 2;have a0:((A.C:Int)==0)=false:=qj
 have a1:¬(k:Int)<0:=qd;have a2:¬(A.C:Int)<=(k:Int):=qd;clear h;go_enter func29,ntmps29;go_wp2;go_ret;exact⟨R,R⟩
theorem cW.drop1{n p:Nat}{P P' N:List Nat}(h:cW T n (P++N))(e:P=p::P'):cW T n (P'++N)/\p∉P'++N:=by
 subst e;exact⟨h.sub,(XCh.1 h.nd).1⟩
def Bb(w:World)(b g n:Nat)(N:List Nat)(e:Ending)(w':World):Prop:=e=.returned (.tuple #[])/\∃T',cQ w' b g n T'/\Rws [g] w w'/\cW T' n N
theorem Mq(w:World){b g n:Nat}(h:cQ w b g n T)(A:Option Addr)(cap:Nat)(P N:List Nat)(hr:Row w A (P.map nV))(hA:∀x o,A=some ⟨x,o,none⟩->x≠g)(hz:cW T n (P++N))(hP:P.length<=7):
  Z 137 #[.slice A P.length cap,.func (.func 135) #[(b,0)] #[]] w (Bb w b g n N):=by
 have HH:=XAA h;have HZ:=XAA hz;obtain⟨m,hm⟩:=Xq P.length;have HM:=XAA hm;rw [hm] at hP ⊢;clear h hz hm;go_enter func137,ntmps137;go_wp2;go_loopw [8] (λi wr=>∃(j:Nat)(T1:Tab),j<=m/\i=I j/\cQ wr b g n T1/\cW T1 n (P.drop j++N)/\Rws [g] w wr) (λi _=>m-(intOf i).toNat)
 case atStart=>exact⟨0,T,XAJ _,R,HH.out,HZ.out,Rws.refl _ _⟩
 case round=>
  obtain⟨j,T1,hj,rfl,hB,Ju,hR⟩:=hrel;have HZ1:=XAA Ju;have HB:=XAA hB;clear Ju hB;by_cases hlt:j<m
  .have t1:(j:Int)<(m:Int):=by omega
   have hjl:j<P.length:=by rw [HM.out];exact hlt
   obtain⟨p,hp⟩:=Xq (P[j]);have hd:P.drop j=p::P.drop (j+1):=by rw [XBt hjl,hp]
   have HD:=XAA hd;have Jp:(P.map nV)[j]? =some (nV p):=by rw [XAa,XAO hjl,hp];rfl
   obtain⟨x,off,hAx,hxl,hxc⟩:=hr qj;have hxj:=hxc j _ Jp;have hne:=hA x off hAx;have cx:wr.cell? (x,off+j)=some (nV p):=(XAP (w:=w) (hR.block x hxl (by simpa using hne))).trans hxj;subst hAx;obtain⟨pn,pk,po⟩:=HZ1.out.nr p (by rw [HD.out];simp);obtain⟨S,hS⟩:=HZ1.out.seg;have hf:=XAA (Gl wr HB.out S hS p pn pk);clear hd Jp hxc hxj hp hS pk po;go_wp2_with (go_at_call 135;refine hf.out.mono ?_;rintro e w1 ⟨T2,rfl,hB2,hR2,hF2⟩);go_roundw
   case rel=>exact⟨j+1,T2,hlt,qbf,hB2,hF2.ok (HZ1.out.drop1 HD.out).1 (HZ1.out.drop1 HD.out).2,hR.trans hR2⟩
   case measure=>simp [intOf];omega
  .obtain rfl:j=m:=by omega
   have t1:¬(j:Int)<(j:Int):=qd;go_wp2_with fail;go_end0;refine⟨R,T1,HB.out,hR,?_⟩;have:=HZ1.out
   rwa [<-HM.out,List.drop_length,XAx] at this
end
theorem G7{cl:Nat->Nat}{w w':World}{j:Nat}(h:w.heap.size<=w'.heap.size):ext (ext cl w j) w' j=ext cl w j:=by
 funext k;unfold ext;by_cases h1:k<w'.heap.size
 .rw [XAE h1]
 .rw [XAD h1,XAD qd]
section
variable{cl aD:Nat->Nat}{w w':World}{A:i_}{T:Tab}{L:Nat->List Nat}{F:Int->Option Int}{q k:Nat}{js:List Nat}
theorem aR.done{w1 w2:World}{T1 T2:Tab}{L1 L2:Nat->List Nat}{F2:Int->Option Int}{q2:Nat}(h:aR cl w A T1 L1 F q)(hm:Md cl js w w1)(hj:61∉js)(hN:∃V,cI cl 62 w1 A.nb A.lb A.C L2 V)(hm2:bR (Value.int .i64) prog 3 w1 A.cm q2 F2)(hq:q2<=1000000)(h1:∀x c,F2 x=some c->1<=c)
 (hB:cQ w2 A.bb A.g A.n T2)(hR:Rws [A.g] w1 w2)(hz:cW T2 A.n (bC A.C L2)):aR cl w2 A T2 L2 F2 q2:=by
 have jf:Md cl [64] w1 w2:=Md.pO hR qdv;refine⟨jf.blk (hm.blk h.blk (by rw [h.cz];exact hj)) (by rw [h.cz];decide),hB,hN.imp λ_ x=>x.md jf qf,hm2.heap (jf.block _ hm2.lt (by rw [h.cc];decide)),⟨hz,h1⟩,h.cz,h.cb,h.cg,h.cc,hq⟩
theorem aR.rows(h:aR cl w A T L F q){w1 w2:World}(hm:Md cl js w w1)(hR:Rws [A.g] w1 w2){cZ:List Nat}(h1:∀j∈js,j∈cZ)(h2:64∈cZ):Md cl cZ w w2:=
 (hm.more h1).trans' (Md.pO hR (by intro g hg _;rw [XA2.1 hg,h.cg];exact h2))
theorem ab6{wr w1:World}{j:Nat}(h:aR cl wr A T L F q)(hj:j<A.C)(hm:Md cl [62] wr w1)(B:Option Addr)(cap:Nat)(hr:Row w1 B ((L j).map nV))(h4:∀g,B=some ⟨g,0,none⟩->cl g=62)(h5:∀g o,B=some ⟨g,o,none⟩->o=0)(h6:(L j).length<=6):
  Z 137 #[.slice B (L j).length cap,.func (.func 135) #[(A.bb,0)] #[]] w1 (Bb w1 A.bb A.g A.n (bC A.C λi=>if i=j then [] else L i)):=
 Mq w1 (h.bd.md hm (by rw [h.cb];decide) (by rw [h.cg];decide)) B cap _ _ hr (λx o e=>by
  have e2:=h5 x o e
  subst e2
  have e3:=h4 x e
  intro e4
  rw [e4,h.cg] at e3
  cases e3) (h.all.ok.perm (yz hj).symm) qd
def OW(cl:Nat->Nat)(w:World)(A:i_)(F:Int->Option Int)(q:Nat)(e:Ending)(w':World):Prop:=
 ∃(b:Bool)(T':Tab)(L':Nat->List Nat),e=.returned (.bool b)/\aR (ext cl w 62) w' A T' L' F q/\Md cl [62,64] w w'
theorem abQ(w:World)(h:aR cl w A T L F q):Z 196 #[(A.zb,0)] w (OW cl w A F q):=by
 have HH:=XAA h;obtain⟨V0,hV0⟩:=h.nr;have hC:=hV0.c8;have z2:w.cell? (A.zb,2)=I A.C:=h.blk.cell 2;have HV:=XAA hV0;clear h hV0;go_enter func196,ntmps196;go_wp2;go_loopw [2,9] (λs i wr=>∃(b:Bool)(j:Nat)(T1:Tab)(L1:Nat->List Nat),s=.bool b/\j<=A.C/\i=I j/\aR (ext cl w 62) wr A T1 L1 F q/\Md cl [62,64] w wr) (λ_ i _=>A.C-(intOf i).toNat)
 case atStart=>exact⟨false,0,T,L,R,XAJ _,R,HH.out.cls (G9 cl w 62),Md.refl _ _ _⟩
 case round=>
  obtain⟨b,j,T1,L1,rfl,hj,rfl,hZ,hM⟩:=hrel;by_cases hlt:j<A.C
  .have t1:(j:Int)<(A.C:Int):=by omega
   have z0:wr.cell? (A.zb,0)=some (.pointer (A.bb,0)):=hZ.blk.cell 0;have z1:wr.cell? (A.zb,1)=some (.pointer (A.nb,0)):=hZ.blk.cell 1;obtain⟨V,hV⟩:=hZ.nr;have HN:=XAA (Zk wr hV hlt);have HZ:=XAA hZ;have HM:=XAA hM;clear hV hZ hM;cases b;all_goals
    go_wp2_with (first|(go_at_call 223;refine HN.out.mono ?_;rintro e w1 ⟨B,cap,V',rfl,hr,hb1,hb2,je,hN',hm1⟩;have k0:w1.cell? (A.zb,0)=some (.pointer (A.bb,0)):=(hm1.blk HZ.out.blk (by rw [HZ.out.cz];decide)).cell 0;have H1:=XAA hN';have H2:=XAA hm1;have H3:=XAA hr;have H4:=XAA hb1;have H5:=XAA hb2;have H6:=XAA je;clear hN' hm1 hr hb1 hb2 je)|(go_at_call 137;refine(ab6 HZ.out hlt H2.out B cap H3.out H4.out H5.out H6.out).mono ?_;rintro e w2 ⟨rfl,T2,hB2,hR2,hz2⟩));have hx:ext (ext cl w 62) wr 62=ext cl w 62:=G7 HM.out.size;have hn:=H1.out;rw [hx] at hn;go_roundw
    case rel=>exact⟨_,j+1,T2,_,R,hlt,qbf,HZ.out.done H2.out qf ⟨_,hn⟩ (HZ.out.mp.heap (H2.out.block _ HZ.out.mp.lt (by rw [HZ.out.cc];decide))) HZ.out.qb HZ.out.all.one hB2 hR2 hz2,HM.out.ext (HZ.out.rows H2.out hR2 qf qf)⟩
    case measure=>simp [intOf];omega
  .obtain rfl:j=A.C:=by omega
   have t1:¬(A.C:Int)<(A.C:Int):=qd;go_wp2_with fail;go_ret;exact⟨b,T1,L1,R,hZ,hM⟩
theorem Ub(C:Nat)(L:Nat->List Nat):bC (C+1) L=bC C L++L C:=by unfold bC;rw [XBz,XCJ];simp
theorem uI(w:World)(h:aR cl w A T L F q):Z 29 #[(A.zb,0),I 0] w λe w'=>e=.returned (I 0)/\w'=w:=
 Ap (k:=0) w h (by obtain⟨V,hV⟩:=h.nr;have:=hV.c1;omega)
theorem acu(w:World)(h:aR cl w A T L F q)(S:List (Nat × Nat))(hS:Seg T 0 A.n S):Z 14 #[(A.zb,0)] w λe w'=>e=.returned (nV (dJ (jb T) S+(bC A.C L).length))/\Below w w w':=by
 have HH:=XAA h;obtain⟨V0,hV0⟩:=h.nr;have hC:=hV0.c8;have dB:=hV0.c1;have je:=hV0.len;have hct:=h.all.ok.count hS;have hn2:=h.bd.n2;have z0:w.cell? (A.zb,0)=some (.pointer (A.bb,0)):=h.blk.cell 0;have z1:w.cell? (A.zb,1)=some (.pointer (A.nb,0)):=h.blk.cell 1;have z2:w.cell? (A.zb,2)=I A.C:=h.blk.cell 2;have zl:=h.blk.lt;have hlf:=P0 w h.bd S hS;have HV:=XAA hV0;have hfl:dJ (jb T) S<=1024:=qd
 generalize dJ (jb T) S=s at hlf hfl ⊢;have HF:=XAA hlf;clear h hV0 hct hS hlf;go_enter func14,ntmps14;go_wp2_with (first|(go_at_call 29;refine Xr (uI _ HH.out) ?_)|(go_at_call 33;refine HF.out.mono ?_;rintro e w1 ⟨rfl,hb1⟩;have y1:=(hb1.cell (p:=⟨A.zb,1,none⟩) zl).trans z1;have y2:=(hb1.cell (p:=⟨A.zb,2,none⟩) zl).trans z2));go_loopw [3,17] (λt i wr=>∃j:Nat,j<=A.C/\t=nV (s+(bC j L).length)/\i=I j/\(bC j L).length<=6*j/\Below w w wr) (λ_ i _=>A.C-(intOf i).toNat)
 case atStart=>exact⟨0,XAJ _,R,R,XAB _,hb1⟩
 case round=>
  obtain⟨j,hj,rfl,rfl,hlen,hb⟩:=hrel;by_cases hlt:j<A.C
  .have t1:(j:Int)<(A.C:Int):=by omega
   have x1:=(hb.cell (p:=⟨A.zb,1,none⟩) zl).trans z1;have hlj:=je j hlt;have HN:=XAA (Zm wr (HV.out.below hb) hlt);have hs:=Ub j L;have hs2:(bC (j+1) L).length=(bC j L).length+(L j).length:=by rw [hs,XAZ]
   have HS:=XAA hs2;clear hs hs2;obtain⟨f,hf⟩:=Xq ((bC j L).length);obtain⟨r,hr⟩:=Xq ((L j).length);rw [hf] at hlen HS;rw [hr] at hlj HS HN;rw [hf];clear hf hr;have hw:IntKind.i64.wrap (((s+f:Nat):Int)+(r:Int))=((s+(f+r):Nat):Int):=qfm
   go_wp2_with (go_at_call 34;refine HN.out.mono ?_;rintro e w2 ⟨B,cap,rfl,hb2⟩);go_roundw
   case rel=>exact⟨j+1,hlt,by rw [HS.out];unfold nV;congr 1;omega,qbf,by rw [HS.out];omega,bB hb hb2⟩
   case measure=>simp [intOf];omega
  .obtain rfl:j=A.C:=by omega
   have t1:¬(A.C:Int)<(A.C:Int):=qd;go_wp2_with fail;go_ret;exact⟨R,hb⟩
end
theorem Ao:prog.underlying 3=some (.int .i64):=XAW
theorem yo:prog.underlying 90=some (.map 3 3):=underlying90
theorem acs(W:World):(zeroValue 3).run prog W=.ok (I 0) W:=qh
abbrev tagV(a o c:Int):Value:=.agg #[I a,I o,I c]
def O0(w:World)(n:Nat)(T:Tab)(N:List Nat)(S:List (Nat × Nat))(p:Int)(e:Ending)(w':World):Prop:=
 Below w w w'/\
 ((e=.returned (.tuple #[tagV 0 0 0,.bool false])/\∀i:Nat,p=i->i<n->iB T N S i=false)\/
 ∃i h:Nat,p=i/\i<n/\h=eC S i/\iB T N S i=true/\∃c:Int,1<=c/\e=.returned (.tuple #[tagV h (T h).o c,.bool true]))
section
variable{cl aD:Nat->Nat}{w w':World}{A:i_}{T:Tab}{L:Nat->List Nat}{F:Int->Option Int}{q k:Nat}{js:List Nat}
theorem IL{C p:Nat} :rX C L p=decide (p∈bC C L):=by
 unfold rX;rw [XBM,XCI,XET,Ua];simp
theorem Mr(w:World)(h:aR cl w A T L F q)(S:List (Nat × Nat))(hS:Seg T 0 A.n S)(p:Int)(hp:dC p):Z 13 #[(A.zb,0),I p] w (O0 w A.n T (bC A.C L) S p):=by
 have HH:=XAA h;have z0:w.cell? (A.zb,0)=some (.pointer (A.bb,0)):=h.blk.cell 0;have z1:w.cell? (A.zb,1)=some (.pointer (A.nb,0)):=h.blk.cell 1;have z3:w.cell? (A.zb,3)=I A.n:=h.blk.cell 3;have z4:w.cell? (A.zb,4)=some (.map (some A.cm)):=h.blk.cell 4;have zl:=h.blk.lt;have hn2:=h.bd.n2;have hb0:Below w w (w.alloc (.cells #[I 0,I 0,I 0] 42)):=(XAC _ w).alloc (XAB _) _;have k0:=ak.new w 42 #[I 0,I 0,I 0];have H0:=XAA (h.below hb0);have HS:=XAA hS;clear h hS;rcases (by omega:p<0\/(A.n:Int)<=p\/(0<=p/\p<A.n)) with hlo|hhi|⟨hl,hr⟩
 .go_enter func13,ntmps13;go_wp2_with (go_at_call 29;refine Xr (uI _ H0.out) ?_);exact XAI (v:=.tuple #[tagV 0 0 0,.bool false]) qhx R ⟨hb0,.inl ⟨R,λi e _=>qd⟩⟩
 .have a0:¬p<0:=by omega
  go_enter func13,ntmps13;go_wp2_with (go_at_call 29;refine Xr (uI _ H0.out) ?_);exact XAI (v:=.tuple #[tagV 0 0 0,.bool false]) qhx R ⟨hb0,.inl ⟨R,λi e _=>qd⟩⟩
 .obtain⟨i,rfl⟩:∃i:Nat,p=i:=⟨p.toNat,qd⟩;have hi:i<A.n:=by omega
  have a0:¬(i:Int)<0:=qd;have a1:¬(A.n:Int)<=(i:Int):=qd;have HB:=XAA (P2 _ H0.out.bd);have xx:=XAA λw1 g c hg hc=>Ug w1 g A.n c i T hg S HS.out hi hn2 hc;obtain⟨o,hm,h1,h2⟩:=HS.out.eC (XAJ _) hi;obtain⟨hd,-,h4⟩:=HS.out.mem hm;have HT:Hid (iB T (bC A.C L) S i=decide ((T (eC S i)).k=2/\eC S i∉bC A.C L)):=XAA rfl;obtain⟨h,hh⟩:=Xq (eC S i);have HE:=XAA hh.symm;rw [hh] at HT xx hd h1 h2 h4;have two:=two_pos o;have hn:h<A.n:=by simp at h4;omega
  clear hm hh h1 h2 h4 two;obtain⟨tk,htk⟩:∃t,(T h).k=t:=⟨_,R⟩;obtain⟨to,hto⟩:∃t,(T h).o=t:=⟨_,R⟩;obtain⟨tc,htc⟩:∃t,(T h).c=t:=⟨_,R⟩;have b1:¬A.n<=h:=qd
  have b2:¬(A.n:Int)<=(h:Int):=qd;have b3:¬(h:Int)<0:=qd;have hkd:=hd.kind;rw [htk,htc] at hkd;have HK:=XAA hkd;clear hkd hd;obtain⟨V,hV⟩:=H0.out.nr;have HN:=XAA λw1 (hb:Below _ _ w1)=>Ky w1 (hV.below hb) h;rw [IL] at HN;have HO:=XAA hto;clear hV;by_cases e1:tk=2
  .subst e1;by_cases e2:h∈bC A.C L
   .rw [XAR e2] at HN;have HQ:=XAA e2;clear e2;go_enter func13,ntmps13;go_wp2_with (first|(go_at_call 29;refine Xr (uI _ H0.out) ?_)|(go_at_call 30;refine HB.out.mono ?_;rintro e w1 ⟨g1,c1,rfl,hc1,hg1,hb1⟩;have ia:=XAA hg1;clear hg1)|(go_at_call 31;refine(xx.out w1 g1 c1 ia.out hc1).mono ?_;rintro e w2 ⟨rfl,hb2⟩;obtain⟨y0,y1,y2⟩:=(ia.out.below hb2).at_ hn;rw [htk] at y0;rw [hto] at y1;rw [htc] at y2;have x1:=(((hb0.trans (hb1.mono hb0.size)).trans (hb2.mono (XAL hb0.size hb1.size))).cell (p:=⟨A.zb,1,none⟩) zl).trans z1;have kB2:=k0.below (bB hb1 hb2))|(go_at_call 32;refine(HN.out w2 (bB hb1 hb2)).mono ?_;rintro e w3 ⟨rfl,hb3⟩;have kB:=kB2.below hb3)|(refine aU R 42 _ _ R _ R R kB R qh qk ?_;intro w8 aC kb8;have kc8:=kb8.cell)|(refine aU rfl 42 _ _ rfl _ rfl rfl kB2 rfl qh qk ?_;intro w8 aC kb8;have kc8:=kb8.cell));exact XAI (v:=.tuple #[tagV 0 0 0,.bool false]) qiw rfl ⟨aI (hb0.trans ((bB (bB hb1 hb2) hb3).mono hb0.size)) aC (XAB _),.inl ⟨rfl,λj e _=>by
     obtain rfl:i=j:=qd
     rw [HT.out]
     exact XAS λhx=>hx.2 HQ.out⟩⟩
   .rw [XAS e2] at HN;have HQ:=XAA e2;clear e2;go_enter func13,ntmps13;go_wp2_with (first|(go_at_call 29;refine Xr (uI _ H0.out) ?_)|(go_at_call 30;refine HB.out.mono ?_;rintro e w1 ⟨g1,c1,rfl,hc1,hg1,hb1⟩;have ia:=XAA hg1;clear hg1)|(go_at_call 31;refine(xx.out w1 g1 c1 ia.out hc1).mono ?_;rintro e w2 ⟨rfl,hb2⟩;obtain⟨y0,y1,y2⟩:=(ia.out.below hb2).at_ hn;rw [htk] at y0;rw [hto] at y1;rw [htc] at y2;have x1:=(((hb0.trans (hb1.mono hb0.size)).trans (hb2.mono (XAL hb0.size hb1.size))).cell (p:=⟨A.zb,1,none⟩) zl).trans z1;have kB2:=k0.below (bB hb1 hb2);have f0:=kB2.frozen 0)|(go_at_call 32;refine(HN.out w2 (bB hb1 hb2)).mono ?_;rintro e w3 ⟨rfl,hb3⟩;have kB:=kB2.below hb3;have hq:=(ia.out.below (bB hb2 hb3)).at_ hn;rw [htk,hto,htc] at hq;obtain⟨y0,y1,y2⟩:=hq)|(refine aU R 42 _ _ R _ R R kB R qh qk ?_;intro w8 aC kb8;have kc8:=kb8.cell)|(refine aU rfl 42 _ _ rfl _ rfl rfl kB2 rfl qh qk ?_;intro w8 aC kb8;have kc8:=kb8.cell));have ev:=bB (bB hb1 hb2) hb3;have l3:=kB.lt;have lg:g1<w3.heap.size:=XAH (aG.lt ia.out) (XAL hb2.size hb3.size);have hlm:=H0.out.mp.lt;have Jb:=HH.out.mp.lt;have yO:=hb0.size;have HX:=HT.out;rw [htk,XAR (⟨rfl,HQ.out⟩:_/\_)] at HX;have oH:=XAA HX;have rk:=XAA λw8 e8=>H0.out.mp.look Ao yo acs (x:=(h:Int)) (gY qd qd) w8 e8;clear HX;have aW:Hid (1<=tc):=XAA (by exact HK.out.elim (λh1=>absurd h1.1 qf) λh1=>h1.2.1);rcases hF:F (h:Int) with _|d
    .rw [hF] at rk;have HF:=XAA hF;clear hF;(refine bN 12 (w3.heap.size) ?_;intro hxc aA hxh hxn;simp only [List.take,List.drop];(repeat (go_big_quiet_step (fail)));refine XAG ?_;clear hxc aA hxh hxn;intro w1 hb1 hz1 hc1 hf1);have kC:=kB.below hb1;have hbC:=bB ev hb1;go_wp2_with (first|(refine aU R 42 _ _ R _ R R kC R qh qk ?_;intro w8 aC kb8;have em:w8.heap[A.cm]? =(w.alloc (.cells #[I 0,I 0,I 0] 42)).heap[A.cm]? :=(aC.block _ (XDx Jb)).trans (hbC.block _ hlm);have z8:w8.cell? (A.zb,4)=some (.map (some A.cm)):=((aC.cell A.zb 4 (XDx zl)).trans ((hb0.trans (hbC.mono yO)).cell (p:=⟨A.zb,4,none⟩) zl)).trans z4;have hlk:=rk.out w8 em;have kc8:=kb8.cell;have f8:=kb8.frozen 2;have hb8:Below w w w8:=aI (hb0.trans (hbC.mono yO)) aC (XAB _))|(refine aU R 42 _ _ R _ R R kb8 R qh qk ?_;intro w9 jg jj;have we:=jj.cell));refine XAI (v:=.tuple #[tagV h to tc,.bool true]) qix R ⟨aI hb8 jg (XAB _),.inr ⟨i,h,R,hi,HE.out,oH.out,tc,?_,by rw [HO.out]⟩⟩;exact aW.out
    .rw [hF] at rk;have HD:=XAA (H0.out.all.one _ _ hF);clear hF;(refine bN 12 (w3.heap.size) ?_;intro hxc aA hxh hxn;simp only [List.take,List.drop];(repeat (go_big_quiet_step (fail)));refine XAG ?_;clear hxc aA hxh hxn;intro w1 hb1 hz1 hc1 hf1);have kC:=kB.below hb1;have hbC:=bB ev hb1;go_wp2_with (first|(refine aU R 42 _ _ R _ R R kC R qh qk ?_;intro w8 aC kb8;have em:w8.heap[A.cm]? =(w.alloc (.cells #[I 0,I 0,I 0] 42)).heap[A.cm]? :=(aC.block _ (XDx Jb)).trans (hbC.block _ hlm);have z8:w8.cell? (A.zb,4)=some (.map (some A.cm)):=((aC.cell A.zb 4 (XDx zl)).trans ((hb0.trans (hbC.mono yO)).cell (p:=⟨A.zb,4,none⟩) zl)).trans z4;have hlk:=rk.out w8 em;have kc8:=kb8.cell;have f8:=kb8.frozen 2;have hb8:Below w w w8:=aI (hb0.trans (hbC.mono yO)) aC (XAB _);have kd8:=kb8.aJ 2 (I d))|(refine aU R 42 _ _ R _ R R kd8 R qh qk ?_;intro w9 jg jj;have we:=jj.cell));refine XAI (v:=.tuple #[tagV h to d,.bool true]) qix R ⟨aI (hb8.setCell (p:=⟨w.heap.size,2,none⟩) (XAB _) _) jg (XAB _),.inr ⟨i,h,R,hi,HE.out,oH.out,d,?_,by rw [HO.out]⟩⟩;exact HD.out
  .have e1':(tk==2)=false:=by simp [e1]
   have HQ:=XAA e1;clear e1;go_enter func13,ntmps13;go_wp2_with (first|(go_at_call 29;refine Xr (uI _ H0.out) ?_)|(go_at_call 30;refine HB.out.mono ?_;rintro e w1 ⟨g1,c1,rfl,hc1,hg1,hb1⟩;have ia:=XAA hg1;clear hg1)|(go_at_call 31;refine(xx.out w1 g1 c1 ia.out hc1).mono ?_;rintro e w2 ⟨rfl,hb2⟩;obtain⟨y0,y1,y2⟩:=(ia.out.below hb2).at_ hn;rw [htk] at y0;rw [hto] at y1;rw [htc] at y2;have x1:=(((hb0.trans (hb1.mono hb0.size)).trans (hb2.mono (XAL hb0.size hb1.size))).cell (p:=⟨A.zb,1,none⟩) zl).trans z1;have kB2:=k0.below (bB hb1 hb2))|(go_at_call 32;refine(HN.out w2 (bB hb1 hb2)).mono ?_;rintro e w3 ⟨rfl,hb3⟩;have kB:=kB2.below hb3)|(refine aU R 42 _ _ R _ R R kB R qh qk ?_;intro w8 aC kb8;have kc8:=kb8.cell)|(refine aU rfl 42 _ _ rfl _ rfl rfl kB2 rfl qh qk ?_;intro w8 aC kb8;have kc8:=kb8.cell));exact XAI (v:=.tuple #[tagV 0 0 0,.bool false]) qiw rfl ⟨aI (hb0.trans ((bB hb1 hb2).mono hb0.size)) aC (XAB _),.inl ⟨rfl,λj e _=>by
    obtain rfl:i=j:=qd
    rw [HT.out]
    exact XAS λhx=>HQ.out (htk ▸ hx.1)⟩⟩
end
section
variable{cl aD:Nat->Nat}{w w':World}{A:i_}{T:Tab}{L:Nat->List Nat}{F:Int->Option Int}{q k:Nat}{js:List Nat}
theorem Only.turned{b:Nat}(h:w.mapTurned w' b):Only b w w':=by
 obtain⟨es,clock,es',clock',hb,rfl⟩:=h;exact⟨R,R,R,by simp [Go.ChangeMaps.setBlock],λk hk=>XEu hb _ hk⟩
theorem aR.entry{F2:Int->Option Int}{q2:Nat}(h:aR cl w A T L F q)(hm:bR (Value.int .i64) prog 3 w' A.cm q2 F2)(ht:w.mapTurned w' A.cm)(hq:q2<=1000000)(h1:∀x c,F2 x=some c->1<=c):aR cl w' A T L F2 q2/\Md cl [63] w w':=by
 have hmd:Md cl [63] w w':=(Md.refl cl [63] w).only (Only.turned ht) λ_=>by rw [h.cc];simp
 exact⟨⟨hmd.blk h.blk (by rw [h.cz];decide),h.bd.md hmd (by rw [h.cb];decide) (by rw [h.cg];decide),h.nr.imp λ_ x=>x.md hmd qf,hm,⟨h.all.ok,h1⟩,h.cz,h.cb,h.cg,h.cc,hq⟩,hmd⟩
theorem zA{x:Int}{c:Nat}(h:∀x c,F x=some c->1<=c)(hc:1<=c):∀y d,cU F x (some (c:Int)) y=some d->1<=d:=by
 intro y d hd;unfold cU at hd;split at hd
 .injection hd with hd;omega
 .exact h y d hd
theorem aR.taken{l:List Nat}{p:Nat}{V':Nat->Value}(h:aR cl w A T L F q)(hk:k<A.C)(hL:L k=l++ [p])(hN:cI (ext cl w 62) 62 w' A.nb A.lb A.C (λi=>if i=k then l else L i) V')(hm:Md cl [62] w w'):
  aR (ext cl w 62) w' A T (λi=>if i=k then l else L i) F q/\p<A.n:=by
 have hp:(bC A.C L).Perm (p::bC A.C λi=>if i=k then l else L i):=by refine(yz hk).trans ?_;rw [hL,XB1];refine List.perm_middle.trans (List.Perm.cons p ?_);exact(Hv hk l).symm
 have hz:=h.all.ok.perm hp.symm;exact⟨⟨hm.blk h.blk (by rw [h.cz];decide),h.bd.md hm (by rw [h.cb];decide) (by rw [h.cg];decide),⟨_,hN⟩,h.mp.heap (hm.block _ h.mp.lt (by rw [h.cc];decide)),⟨hz.sub,h.all.one⟩,(dG h.blk.lt).trans h.cz,(dG h.bd.blk.lt).trans h.cb,(dG (aG.lt h.bd.row)).trans h.cg,(dG h.mp.lt).trans h.cc,h.qb⟩,
  (hz.nr p (XA1 ..)).1⟩
theorem aR.gave{o c a:Nat}{T':Tab}(h:aR cl w A T L F q)(hB:cQ w' A.bb A.g A.n T')(hR:Rws [A.g] w w')(hg:ot T A.n o c a T')(h1:1<=c)(h8:c<=8):aR cl w' A T' L F q/\Md cl [64] w w':=
 ⟨h.done (Md.refl cl [] w) ql h.nr h.mp h.qb h.all.one hB hR (hg.ok h.all.ok h1 h8),Md.pO hR qdv⟩
theorem Qb(h:aR cl w A T L F q)(o c:Nat)(ho:o<=10)(hc:c<=8):Z 195 #[(A.bb,0),I o,I c] w (Ev w A.bb A.g A.n T o c):=by
 obtain⟨S,hS⟩:=h.all.ok.seg;exact PY w h.bd S hS o c ho hc
theorem aR.mono(h:aR cl w A T L F q){q':Nat}(h1:q<=q')(h2:q'<=1000000):aR cl w A T L F q':=⟨h.blk,h.bd,h.nr,h.mp.mono h1,h.all,h.cz,h.cb,h.cg,h.cc,h2⟩
def rz(cl:Nat->Nat)(w:World):Prop:=∀w':World,w.heap.size<=w'.heap.size->ext cl w' 62=cl
theorem rz.app{cl:Nat->Nat}{w w':World}(h:rz cl w)(hs:w.heap.size<=w'.heap.size):ext cl w' 62=cl:=h w' hs
theorem rz.ext(cl:Nat->Nat)(w:World):rz (Go.Proofs.YtedefgjfgdcfdaaGreatDoor.ext cl w 62) w:=λ_ h=>G7 h
theorem Mp(h:aR cl w A T L F q)(he:ext cl w 62=cl):Z 196 #[(A.zb,0)] w λe w'=>∃(b:Bool)(T':Tab)(L':Nat->List Nat),e=.returned (.bool b)/\aR cl w' A T' L' F q/\Md cl [62,64] w w':=by
 refine(abQ w h).mono ?_;rintro e w' ⟨b,T',L',h1,h2,h3⟩;rw [he] at h2;exact⟨b,T',L',h1,h2,h3⟩
def OV(cl:Nat->Nat)(w:World)(A:i_)(T:Tab)(q o:Nat)(e:Ending)(w':World):Prop:=
 (∃T' L' F',aR cl w' A T' L' F' (q+1))/\Md cl [62,63,64] w w'/\((e=.returned (.tuple #[I 0,I 7])/\ic T A.n o 11)\/∃p:Nat,p<A.n/\e=.returned (.tuple #[nV p,I 0]))
theorem Gt(h:aR cl w A T L F q)(o c:Nat)(ho:o<=10)(h1:1<=c)(hc:c<=8):Z 195 #[(A.bb,0),I o,I c] w λe w'=>
  (e=.returned (.tuple #[I 0,I 7])/\aR cl w' A T L F q/\Md cl [64] w w'/\ic T A.n o 11)\/(∃(a:Nat)(T':Tab),e=.returned (.tuple #[nV a,I 0])/\a<A.n/\aR cl w' A T' L F q/\Md cl [64] w w'):=by
 refine(Qb h o c ho hc).mono ?_;rintro e w' (⟨rfl,hb,hn⟩|⟨a,T',rfl,hB,hR,hg⟩)
 .exact .inl ⟨R,h.below hb,Md.of_below _ _ hb,hn⟩
 .exact .inr ⟨a,T',R,hg.lt,h.gave hB hR hg h1 hc⟩
theorem ab9(h:aR cl w A T L F q)(he:ext cl w 62=cl)(hk:k<A.C):Z 194 #[(A.nb,0),I k] w λe w'=>
  (e=.returned (.tuple #[I 0,.bool false])/\w'=w)\/∃(p:Nat)(L':Nat->List Nat),e=.returned (.tuple #[nV p,.bool true])/\p<A.n/\aR cl w' A T L' F q/\Md cl [62] w w':=by
 obtain⟨V,hV⟩:=h.nr;refine(Zp w hV hk).mono ?_;rintro e w' (⟨h1,-,h2⟩|⟨p,l,V',h1,h2,h3,h4⟩)
 .exact .inl ⟨h1,h2⟩
 .have:=h.taken hk h2 h3 h4;rw [he] at this;exact .inr ⟨p,_,h1,this.2,this.1,h4⟩
theorem abO(w:World)(h:aR cl w A T L F q)(he:rz cl w)(hk:k<A.C)(o c:Nat)(ho:o<=10)(h1:1<=c)(hc:c<=8)(hq:q<1000000):
  Z 148 #[(A.zb,0),I k,I o,I c] w (OV cl w A T q o):=by
 have HZ:=XAA h;have HM:=XAA (Md.refl cl [62,63,64] w);have z0:w.cell? (A.zb,0)=some (.pointer (A.bb,0)):=h.blk.cell 0;have z1:w.cell? (A.zb,1)=some (.pointer (A.nb,0)):=h.blk.cell 1;have z4:w.cell? (A.zb,4)=some (.map (some A.cm)):=h.blk.cell 4;have a0:¬(o:Int)<0:=qd
 have a1:¬(10:Int)<(o:Int):=qd;have a2:¬(c:Int)<0:=qd;have a3:¬(8:Int)<(c:Int):=qd;have hn2:=h.bd.n2;have HN:=XAA (ab9 h (he w (XAB _)) hk);clear h;by_cases ho0:o=0
 .have b0:((o:Int)==0)=true:=by simp [ho0]
  clear ho0;go_enter func148,ntmps148;go_wp2_with (first|(go_at_call 29;refine Xr (Ap _ HZ.out hk) ?_)|(go_at_call 194;refine HN.out.mono ?_;(rintro e w1 (⟨rfl,hw1⟩|⟨p,L',rfl,hp,hZ1,hm1⟩)<;>first|(replace hw1:=hw1.symm;subst hw1)|(have HZ:=XAA hZ1;have HM:=XAA (HM.out.trans' (Md.more hm1 qf));have z0:w1.cell? (A.zb,0)=some (.pointer (A.bb,0)):=ak.cell (aR.blk hZ1) 0;have z4:w1.cell? (A.zb,4)=some (.map (some A.cm)):=ak.cell (aR.blk hZ1) 4;clear hZ1 hm1)))|(go_at_call 195;refine(Gt HZ.out o c ho h1 hc).mono ?_;rintro e w2 (⟨rfl,hZ2,hm2,hno⟩|⟨p,T2,rfl,hp,hZ2,hm2⟩)<;>(have HZ:=XAA hZ2;have HM:=XAA (HM.out.trans' (Md.more hm2 qf));have z0:w2.cell? (A.zb,0)=some (.pointer (A.bb,0)):=ak.cell (aR.blk hZ2) 0;have z4:w2.cell? (A.zb,4)=some (.map (some A.cm)):=ak.cell (aR.blk hZ2) 4;clear hZ2 hm2))|(go_at_call 196;have th:=XAA hno;clear hno;(with_reducible refine(Mp HZ.out (he.app HM.out.size)).mono ?_);rintro e w3 ⟨b,T3,L3,rfl,hZ3,jf⟩;have HZ:=XAA hZ3;have HM:=XAA (HM.out.trans' (Md.more jf qf));have z0:w3.cell? (A.zb,0)=some (.pointer (A.bb,0)):=ak.cell (aR.blk hZ3) 0;have z4:w3.cell? (A.zb,4)=some (.map (some A.cm)):=ak.cell (aR.blk hZ3) 4;clear hZ3 jf;cases b)|(at_mapUpdate;refine ju R 90 _ _ _ R Ao yo R HZ.out.mp (by have:=HZ.out.qb;unfold maxLen;omega) (p:Int) (c:Int) R R (gY qd qd) ?_;intro w5 eD dH));all_goals go_ret2
  all_goals first
   |exact⟨⟨_,_,_,HZ.out.mono (XAU q) qd⟩,HM.out,.inl ⟨R,th.out⟩⟩
   |exact⟨⟨_,_,_,HZ.out.mono (XAU q) qd⟩,HM.out,.inr ⟨p,hp,R⟩⟩
   |exact⟨⟨_,_,_,(HZ.out.entry eD dH qd (zA HZ.out.all.one h1)).1⟩,HM.out.trans' (Md.more (HZ.out.entry eD dH qd (zA HZ.out.all.one h1)).2 qf),.inr ⟨p,hp,R⟩⟩
 .have b0:((o:Int)==0)=false:=by simp [ho0]
  clear ho0;go_enter func148,ntmps148;go_wp2_with (first|(go_at_call 29;refine Xr (Ap _ HZ.out hk) ?_)|(go_at_call 194;refine HN.out.mono ?_;(rintro e w1 (⟨rfl,hw1⟩|⟨p,L',rfl,hp,hZ1,hm1⟩)<;>first|(replace hw1:=hw1.symm;subst hw1)|(have HZ:=XAA hZ1;have HM:=XAA (HM.out.trans' (Md.more hm1 qf));have z0:w1.cell? (A.zb,0)=some (.pointer (A.bb,0)):=ak.cell (aR.blk hZ1) 0;have z4:w1.cell? (A.zb,4)=some (.map (some A.cm)):=ak.cell (aR.blk hZ1) 4;clear hZ1 hm1)))|(go_at_call 195;refine(Gt HZ.out o c ho h1 hc).mono ?_;rintro e w2 (⟨rfl,hZ2,hm2,hno⟩|⟨p,T2,rfl,hp,hZ2,hm2⟩)<;>(have HZ:=XAA hZ2;have HM:=XAA (HM.out.trans' (Md.more hm2 qf));have z0:w2.cell? (A.zb,0)=some (.pointer (A.bb,0)):=ak.cell (aR.blk hZ2) 0;have z4:w2.cell? (A.zb,4)=some (.map (some A.cm)):=ak.cell (aR.blk hZ2) 4;clear hZ2 hm2))|(go_at_call 196;have th:=XAA hno;clear hno;(with_reducible refine(Mp HZ.out (he.app HM.out.size)).mono ?_);rintro e w3 ⟨b,T3,L3,rfl,hZ3,jf⟩;have HZ:=XAA hZ3;have HM:=XAA (HM.out.trans' (Md.more jf qf));have z0:w3.cell? (A.zb,0)=some (.pointer (A.bb,0)):=ak.cell (aR.blk hZ3) 0;have z4:w3.cell? (A.zb,4)=some (.map (some A.cm)):=ak.cell (aR.blk hZ3) 4;clear hZ3 jf;cases b)|(at_mapUpdate;refine ju R 90 _ _ _ R Ao yo R HZ.out.mp (by have:=HZ.out.qb;unfold maxLen;omega) (p:Int) (c:Int) R R (gY qd qd) ?_;intro w5 eD dH));all_goals go_ret2
  all_goals first
   |exact⟨⟨_,_,_,HZ.out.mono (XAU q) qd⟩,HM.out,.inl ⟨R,th.out⟩⟩
   |exact⟨⟨_,_,_,HZ.out.mono (XAU q) qd⟩,HM.out,.inr ⟨p,hp,R⟩⟩
   |exact⟨⟨_,_,_,(HZ.out.entry eD dH qd (zA HZ.out.all.one h1)).1⟩,HM.out.trans' (Md.more (HZ.out.entry eD dH qd (zA HZ.out.all.one h1)).2 qf),.inr ⟨p,hp,R⟩⟩
end
section
variable{cl aD:Nat->Nat}{w w':World}{A:i_}{T:Tab}{L:Nat->List Nat}{F:Int->Option Int}{q k:Nat}{js:List Nat}
def OX(cl:Nat->Nat)(w:World)(A:i_)(q:Nat)(e:Ending)(w':World):Prop:=
 ∃(r:Int)(T':Tab)(L':Nat->List Nat)(F':Int->Option Int),e=.returned (I r)/\(r=0\/r=60)/\aR cl w' A T' L' F' q/\Md cl [62,63,64] w w'
theorem Z6{x:Int}(h:∀x c,F x=some c->1<=c):∀y d,cU F x none y=some d->1<=d:=by
 intro y d hd;unfold cU at hd;split at hd
 .cases hd
 .exact h y d hd
theorem aR.Zc{p:Nat}(h:aR cl w A T L F q)(hp:p<A.n)(h2:(T p).k=2)(h0:(T p).o=0)(hn:p∉bC A.C L)(hk:k<A.C)(m:Nat):
  cW T A.n ((L k++ [p]).take m++bC A.C λi=>if i=k then(L k++ [p]).drop m else L i):=by
 have hz:cW T A.n (p::bC A.C L):=⟨h.all.ok.seg,XCh.2 ⟨hn,h.all.ok.nd⟩,λx hx=>by
  rcases XBD.1 hx with rfl|hx
  .exact⟨hp,h2,h0⟩
  .exact h.all.ok.nr x hx⟩
 refine hz.perm ?_;refine((Hv hk ((L k++ [p]).drop m)).append_left _).trans ?_;rw [<-XB1,List.take_append_drop,XB1];exact List.perm_middle.trans (List.Perm.cons p (yz hk).symm)
theorem acv{p:Nat}(h:aR cl w A T L F q)(he:ext cl w 62=cl)(hk:k<A.C)(hp:p<A.n)(hn:p∉bC A.C L):Z 136 #[(A.nb,0),I k,I p] w λe w'=>
  ∃(B:Option Addr)(m:Nat)(V':Nat->Value)(P:List Nat),P=(L k++ [p]).take m/\e=.returned (.tuple #[.slice B P.length m,I 0])/\Row w' B (P.map nV)/\(∀x o,B=some ⟨x,o,none⟩->x≠A.g)/\P.length<=7/\
   cI cl 62 w' A.nb A.lb A.C (λi=>if i=k then(L k++ [p]).drop m else L i) V'/\Md cl [62] w w':=by
 obtain⟨V,hV⟩:=h.nr;have hn2:=h.bd.n2;refine(Zo w hV hk p qd (by rw [IL];exact XAS hn)).mono ?_;rintro e w' ⟨B,V',h1,h2,h3,h4,h5⟩;rw [he] at h3;have je:=hV.len k hk;have hm:((L k++ [p]).take (nR (L k).length)).length=nR (L k).length:=by rw [XBV,XAZ,List.length_singleton,XC9];unfold nR;split<;>omega
 refine⟨B,nR (L k).length,V',_,R,by rw [hm];exact h1,h2,λx o hB=>?_,by rw [XBV,XAZ];simp;omega,h3,h4⟩;obtain⟨-,h6⟩:=h5 x o hB;rw [he] at h6;intro e;rw [e,h.cg] at h6;cases h6
theorem ab7{w1:World}{p m:Nat}(h:aR cl w A T L F q)(hm:Md cl js w w1)(hj:61∉js)(hj2:64∉js)(hp:p<A.n)(h2:(T p).k=2)(h0:(T p).o=0)(hn:p∉bC A.C L)(hk:k<A.C)(B:Option Addr)(cap:Nat)(P:List Nat)(hP:P=(L k++ [p]).take m)(hr:Row w1 B (P.map nV))(hB:∀x o,B=some ⟨x,o,none⟩->x≠A.g)(hl:P.length<=7):
  Z 137 #[.slice B P.length cap,.func (.func 135) #[(A.bb,0)] #[]] w1 (Bb w1 A.bb A.g A.n (bC A.C λi=>if i=k then(L k++ [p]).drop m else L i)):=
 Mq w1 (h.bd.md hm (by rw [h.cb];exact hj) (by rw [h.cg];exact hj2)) B cap P _ hr hB (by rw [hP];exact h.Zc hp h2 h0 hn hk m) hl
theorem acw(h:aR cl w A T L F q)(p:Int)(hp:dC p):Z 13 #[(A.zb,0),I p] w λe w'=>Below w w w'/\
  (e=.returned (.tuple #[tagV 0 0 0,.bool false])\/(∃(h:Nat)(o c:Int),((h:Int)==p)=false/\e=.returned (.tuple #[tagV h o c,.bool true]))\/
  (∃(i:Nat)(o c:Int),p=i/\i<A.n/\(T i).k=2/\i∉bC A.C L/\0<o/\e=.returned (.tuple #[tagV i o c,.bool true]))\/
  ∃(i:Nat)(c:Int),p=i/\i<A.n/\(T i).k=2/\(T i).o=0/\i∉bC A.C L/\e=.returned (.tuple #[tagV i 0 c,.bool true])):=by
 obtain⟨S,hS⟩:=h.all.ok.seg;refine(Mr w h S hS p hp).mono ?_;rintro e w' ⟨hb,⟨rfl,-⟩|⟨i,x,rfl,hi,rfl,ht,c,hc,rfl⟩⟩
 .exact⟨hb,.inl R⟩
 .refine⟨hb,.inr ?_⟩;have h2:=XBY ht;by_cases e:eC S i=i
  .rw [e] at h2 ⊢;obtain⟨o,-,-,-,-,hd,-⟩:=hS.at (XAJ _) hi (by rw [h2.1];decide);have ho:=hd.ord;refine .inr ?_;by_cases e0:o=0
   .subst e0;exact .inr ⟨i,c,R,hi,h2.1,ho,h2.2,by rw [ho];rfl⟩
   .exact .inl ⟨i,_,c,R,hi,h2.1,h2.2,qd,R⟩
  .exact .inl ⟨_,_,c,qj,R⟩
theorem abP{p:Nat}(h:aR cl w A T L F q)(hp:p<A.n)(h2:(T p).k=2)(hn:p∉bC A.C L):Z 135 #[(A.bb,0),I p] w λe w'=>e=.returned (I 0)/\∃T',aR cl w' A T' L F q/\Md cl [64] w w':=by
 obtain⟨S,hS⟩:=h.all.ok.seg;refine(Gl w h.bd S hS p hp h2).mono ?_;rintro e w' ⟨T',rfl,hB,hR,hF⟩;exact⟨R,T',h.done (Md.refl cl [] w) ql h.nr h.mp h.qb h.all.one hB hR (hF.ok h.all.ok hn),Md.pO hR qdv⟩
theorem ab8(w:World)(h:aR cl w A T L F q)(he:rz cl w)(hk:k<A.C)(p:Int)(hp:dC p):
  Z 91 #[(A.zb,0),I k,I p] w (OX cl w A q):=by
 have HZ:=XAA h;have HM:=XAA (Md.refl cl [62,63,64] w);have hn2:=h.bd.n2;clear h;go_enter func91,ntmps91;go_wp2_with (first|(go_at_call 29;refine Xr (Ap _ HZ.out hk) ?_)|(go_at_call 13;refine(acw HZ.out p hp).mono ?_;rintro e w1 ⟨hb1,hcase⟩;have z0:w1.cell? (A.zb,0)=some (.pointer (A.bb,0)):=(HZ.out.below hb1).blk.cell 0;have z4:w1.cell? (A.zb,4)=some (.map (some A.cm)):=(HZ.out.below hb1).blk.cell 4;have zl:=(HZ.out.below hb1).blk.lt;rcases hcase with rfl|⟨x,o,c,hx,rfl⟩|⟨i,o,c,rfl,hi,h2,hni,ho,rfl⟩|⟨i,c,rfl,hi,h2,h0,hni,rfl⟩)|(go_at_call 135;refine(abP (HZ.out.below (hb1.alloc hb1.size _)) hi h2 hni).mono ?_;rintro e w2 ⟨rfl,T2,hZ2,hm2⟩)|(go_at_call 136;refine(acv HZ2.out (he.app HS2.out) hk hi hni).mono ?_;rintro e w3 ⟨B,m,V',P,hP,rfl,hr,hB,hl,hN,jf⟩;have q0:w3.cell? (A.zb,0)=some (.pointer (A.bb,0)):=(jf.blk HZ2.out.blk (by rw [HZ2.out.cz];decide)).cell 0;have H3:=XAA jf;have H4:=XAA hr;have H5:=XAA hB;have H6:=XAA hl;have H7:=XAA hN;have H8:=XAA hP;clear jf hr hB hl hN hP)|(go_at_call 137;refine(ab7 HZ2.out H3.out qf qf hi h2 h0 hni hk B _ P H8.out H4.out H5.out H6.out).mono ?_;rintro e w4 ⟨rfl,T4,hB4,o5,py⟩)|(at_delete;refine Mg R 90 3 _ _ R Ao yo R (HZ.out.below (hb1.alloc hb1.size _)).mp (i:Int) R hp ?_;intro w2 hm2 ht2;have hE:=(HZ.out.below (hb1.alloc hb1.size _)).entry hm2 ht2 HZ.out.qb (Z6 HZ.out.all.one);have q1:w2.cell? (A.zb,1)=some (.pointer (A.nb,0)):=hE.1.blk.cell 1;have HZ2:=XAA hE.1;have AI:=XAA hE.2;have HS2:=XAA (XAL (hb1.alloc hb1.size _).size hE.2.size);clear hE));all_goals go_ret
 .exact⟨60,T,L,F,R,.inr R,(HZ.out.below (hb1.alloc hb1.size _)),Md.of_below _ _ (hb1.alloc hb1.size _)⟩
 .exact⟨60,T,L,F,R,.inr R,(HZ.out.below (hb1.alloc hb1.size _)),Md.of_below _ _ (hb1.alloc hb1.size _)⟩
 .exact⟨0,T2,L,F,R,.inl R,hZ2,(Md.of_below _ _ (hb1.alloc hb1.size _)).trans' (hm2.more qf)⟩
 .exact⟨0,T4,_,_,R,.inl R,HZ2.out.done H3.out qf ⟨_,H7.out⟩ (HZ2.out.mp.heap (H3.out.block _ HZ2.out.mp.lt (by rw [HZ2.out.cc];decide))) HZ2.out.qb HZ2.out.all.one hB4 o5 py,
   (Md.of_below _ _ (hb1.alloc hb1.size _)).trans' ((AI.out.more qf).trans' (HZ2.out.rows H3.out o5 qf qf))⟩
end
def kZ(cl:Nat->Nat)(s s1 b g zb cm:Nat):Nat->Nat:=λk=>if k<s then cl k else if k<s1 then 62 else if k=g then 64 else if k=cm then 63 else if k=b\/k=zb then 61 else 62
structure OZ(cl:Nat->Nat)(w:World)(C n:Nat)(e:Ending)(w':World)(A:i_)(T:Tab)(cl':Nat->Nat):Prop where
 e:e=.returned (.tuple #[(A.zb,0),I 0])
 C_:A.C=C
 n_:A.n=n
 at_:aR cl' w' A T (λ_=> []) (λ_=>none) 0
 wh:lB T n
 old:∀k,k<w.heap.size->cl' k=cl k
 new:∀k,w.heap.size<=k->61<=cl' k/\cl' k<=64
 b:Below w w w'
def OY(cl:Nat->Nat)(w:World)(C n:Nat)(e:Ending)(w':World):Prop:=∃A T cl',OZ cl w C n e w' A T cl'
theorem acK(cl:Nat->Nat)(w:World)(C n:Nat)(h1:1<=C)(h2:C<=8)(h3:1<=n)(h4:n<=1024):Z 23 #[I C,I n] w (OY cl w C n):=by
 have hmm:= @XCb prog;go_enter func23,ntmps23;go_wp2_with (first|(go_at_call 46;refine(Zn (cl:=cl) (c:=62) w C h1 h2).mono ?_;rintro e w1 ⟨nb,lb,rfl,hN,hb1⟩)|(go_at_call 47;refine(P1 w1 n h3 h4).mono ?_;rintro e w2 ⟨bb,g,T,rfl,hB,hW,hbb,hgg,hb2⟩))
 go_ret2
 have l1:=hB.blk.lt;have l2:=aG.lt hB.row;have l3:=hN.blk.lt;have l4:=hN.row.lt;have hne:=hB.ne;have s1:=hb1.size;have s2:=hb2.size;have hbm:Below w2 w2 ((w2.alloc (.map #[] 0)).alloc (.cells #[(bb,0),.pointer (nb,0),I C,I n,.map (some w2.heap.size)] 92)):=((XAC _ w2).alloc (XAB _) _).alloc ql _;have kz:=ak.new (w2.alloc (.map #[] 0)) 92 #[(bb,0),.pointer (nb,0),I C,I n,.map (some w2.heap.size)];rw [XAT] at kz;have hcl:∀k,k<w1.heap.size->kZ cl w.heap.size w1.heap.size bb g (w2.heap.size+1) w2.heap.size k=ext cl w 62 k:=λk hk=>by
  unfold kZ ext;by_cases h:k<w.heap.size
  .rw [XAE h,XAE h]
  .rw [XAD h,XAD h,XAE hk]
 refine⟨⟨w2.heap.size+1,bb,g,nb,lb,w2.heap.size,C,n⟩,T,kZ cl w.heap.size w1.heap.size bb g (w2.heap.size+1) w2.heap.size,R,R,R,⟨kz,hB.below hbm,⟨_,((hN.cls hcl).below hb2).below hbm⟩,(bR.new w2).alloc _,⟨?_,λ_ _ h=>qck⟩,?_,?_,?_,?_,XAJ _⟩,hW,λk hk=>XAE hk,λk hk=>?_,?_⟩
 .obtain⟨S,hS,-⟩:=hW;refine⟨⟨S,hS⟩,?_,?_⟩
  .show(bC C λ_=> []).Nodup;rw [Cg];exact List.nodup_nil
  .show ∀p∈bC C λ_=> [],_;rw [Cg];intro p hp;cases hp
 .show kZ cl w.heap.size w1.heap.size bb g (w2.heap.size+1) w2.heap.size (w2.heap.size+1)=61;unfold kZ;rw [XAD qd,XAD qd,XAD qd,XAD qd,XAE (.inr R)]
 .show kZ cl w.heap.size w1.heap.size bb g (w2.heap.size+1) w2.heap.size bb=61;unfold kZ;rw [XAD qd,XAD qd,XAD hne,XAD qd,XAE (.inl R)]
 .show kZ cl w.heap.size w1.heap.size bb g (w2.heap.size+1) w2.heap.size g=64;unfold kZ;rw [XAD qd,XAD qd,XAE rfl]
 .show kZ cl w.heap.size w1.heap.size bb g (w2.heap.size+1) w2.heap.size w2.heap.size=63;unfold kZ;rw [XAD qd,XAD qd,XAD qd,XAE rfl]
 .unfold kZ;rw [XAD qd];repeat' split
  all_goals omega
 .exact(bB hb1 hb2).trans (hbm.mono qd)
end Go.Proofs.YtedefgjfgdcfdaaGreatDoor
