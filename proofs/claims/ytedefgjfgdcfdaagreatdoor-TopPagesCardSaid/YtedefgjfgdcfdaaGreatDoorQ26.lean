/- Walks and laws for TopPages. -/
import Derived.Test.YtedefgjfgdcfdaaGreatDoorQ14
namespace Go.Proofs.YtedefgjfgdcfdaaGreatDoor
open Go.RowKit Go.Proofs.Tryz
set_option maxRecDepth 100000
set_option maxHeartbeats 4000000
def jX(C:Nat)(X:Nat->Int × Int):List Value:=(List.range C).flatMap λ(i:Nat)=> [I (X i).1,I (X i).2]
theorem wR(C:Nat)(X:Nat->Int × Int):(jX C X).length=C*2:=by
 unfold jX;rw [List.length_flatMap];simp [List.map_const',List.sum_replicate_nat]
theorem abC(C:Nat)(X:Nat->Int × Int):jX (C+1) X=jX C X++ [I (X C).1,I (X C).2]:=by
 unfold jX;rw [XBz,XCJ];rfl
theorem uz:∀(C:Nat)(X:Nat->Int × Int)(k:Nat),k<C->(jX C X)[k*2]? =I (X k).1/\(jX C X)[k*2+1]? =I (X k).2
 |0,_,k,h=>absurd h (XC_ k)
 |C+1,X,k,h=>by
  have hl:=wR C X;rw [abC];rcases (by omega:k<C\/k=C) with h1|h1
  .rw [XB0 qd,XB0 qd];exact uz C X k h1
  .subst h1;rw [XBy qd,XBy qd,hl,XDL,Nat.add_sub_cancel_left];exact⟨R,R⟩
theorem abU(C:Nat)(X:Nat->Int × Int)(k:Nat)(x y:Int):((jX C X).set (k*2) (I x)).set (k*2+1) (I y)=jX C (λj=>if j=k then(x,y) else X j):=by
 apply XA5;intro j;rw [XBm,XBm,XAk,wR];by_cases hj:j<C*2
 .obtain⟨a1,a2⟩:=uz C X (j / 2) qd;obtain⟨b1,b2⟩:=uz C (λi=>if i=k then(x,y) else X i) (j / 2) qd;rcases (by omega:j=j / 2*2\/j=j / 2*2+1) with e|e
  .rw [XAD qd];by_cases ek:k*2=j
   .rw [XAE ek,XAE qd];rw [e,b1];rw [XAE qd]
   .rw [XAD ek,e,a1,b1,XAD qd]
  .by_cases ek:k*2+1=j
   .rw [XAE ek,XAE qd,e,b2,XAE qd]
   .rw [XAD ek,XAD qd,e,a2,b2,XAD qd]
 .rw [XAd (l:=jX C X) (by rw [wR];omega),XAd (l:=jX C _) (by rw [wR];omega)];split
  .split
   .omega
   .rfl
  .split
   .split
    .omega
    .rfl
   .rfl
structure eo(w:World)(b g C:Nat)(X:Nat->Int × Int):Prop where
 blk:ak w b 124 #[.slice (g,0) C C]
 row:aG w g 243 (jX C X)
 rng:∀k,0<=(X k).2/\(X k).2<=1024
section
variable{w w':World}{b g C:Nat}{X:Nat->Int × Int}
theorem eo.heap(h:eo w b g C X)(h1:w'.heap[b]? =w.heap[b]?)(h2:w'.heap[g]? =w.heap[g]?):eo w' b g C X:=⟨h1.trans h.blk,h.row.heap h2,h.rng⟩
theorem eo.below(h:eo w b g C X)(hb:Below w w w'):eo w' b g C X:=⟨h.blk.below hb,h.row.below hb,h.rng⟩
theorem eo.c1(h:eo w b g C X){k:Nat}(hk:k<C):w.cell? (g,k*2)=I (X k).1:=h.row.cell _ _ (uz C X k hk).1
theorem eo.c2(h:eo w b g C X){k:Nat}(hk:k<C):w.cell? (g,k*2+1)=I (X k).2:=h.row.cell _ _ (uz C X k hk).2
theorem eo.ne(h:eo w b g C X):b≠g:=(aG.jP h.blk).ne h.row qf
theorem eo.set(h:eo w b g C X)(k:Nat)(x y:Int)(h1:0<=y/\y<=1024):eo ((w.setCell (g,k*2) (I x)).setCell (g,k*2+1) (I y)) b g C (λj=>if j=k then(x,y) else X j):=by
 refine⟨(h.blk.far h.ne _).far h.ne _,?_,λj=>?_⟩
 .have h5:=(h.row.set (k*2) (I x)).set (k*2+1) (I y);rw [abU] at h5;exact h5
 .show 0<=(if j=k then(x,y) else X j).2/\_;split
  .exact h1
  .exact h.rng j
theorem jW(w:World)(h:eo w b g C X)(k:Nat)(hk:k<C):Z 140 #[(b,0),I k] w λe w'=>e=.returned (.pointer (g,k*2))/\w'=w:=by
 have c0:=h.blk.cell 0;have k0:(0:Int)<=(k:Int):=qd
 have k1:(k:Int)<(C:Int):=qd;have k2:¬(C:Int)<=(k:Int):=qd;clear h hk;go_enter func140,ntmps140;go_wp2;go_ret;exact⟨R,R⟩
def lY(x n:Int):Int × Int:=if n=0 then(0,0) else(x,n)
theorem Ai(w:World)(x n:Int):Z 141 #[I x,I n] w λe w'=>e=.returned (.agg #[I (lY x n).1,I (lY x n).2])/\Below w w w':=by
 by_cases hn:n=0
 .subst hn;go_enter func141,ntmps141;go_wp2;exact XAI (v:=.agg #[I 0,I 0]) (by simp [results,results141,go_sem]) R ⟨R,qa⟩
 .have e:lY x n=(x,n):=XAD hn;have h0:(n==0)=false:=by rw [XAf];exact hn
  rw [e];go_enter func141,ntmps141;go_wp2;exact XAI (v:=.agg #[I x,I n]) (by simp [results,results141,go_sem]) R ⟨R,qa⟩
theorem Ah{x n:Int}(h:0<=n/\n<=1024):0<=(lY x n).2/\(lY x n).2<=1024:=by
 unfold lY;split
 .exact⟨XBG _,by show(0:Int)<=1024;omega⟩
 .exact h
def takeB(X:Int × Int)(g n:Int):Bool:=decide (1<=n/\n<=X.2/\X.1=g)
theorem WC{α:Type}(X:Nat->α)(k:Nat):(λj=>if j=k then X k else X j)=X:=by
 funext j;split
 .rename_i h;rw [h]
 .rfl
theorem aa2(w:World)(h:eo w b g C X)(k:Nat)(hk:k<C)(x n:Int):Z 99 #[(b,0),I k,I x,I n] w λe w'=>
  e=.returned (.bool (takeB (X k) x n))/\eo w' b g C (λj=>if j=k then(bif takeB (X k) x n then lY x ((X k).2-n) else X k) else X j)/\Rws [g] w w':=by
 have HS:=XAA h;have hk':=XAA hk;obtain⟨a,ha⟩:=Xq ((X k).1);obtain⟨c,hc⟩:=Xq ((X k).2);have c1:=h.c1 hk;have c2:=h.c2 hk;have rng:=h.rng k;have gl:=h.row.lt;have f1:=h.row.frz (k*2);have f2:=h.row.frz (k*2+1);rw [ha] at c1;rw [hc] at c2 rng;have ht:takeB (X k) x n=decide (1<=n/\n<=c/\a=x):=by unfold takeB;rw [ha,hc]
 by_cases hyes:1<=n/\n<=c/\a=x
 .obtain⟨y1,y2,rfl⟩:=hyes;rw [ht,XAR ⟨y1,y2,R⟩,cond_true,hc];obtain⟨p,q,hpq⟩:∃p q,lY a (c-n)=(p,q):=⟨_,_,R⟩;have hr:=Ah (x:=a) (n:=c-n) ⟨qd,qd⟩;rw [hpq] at hr ⊢;have HP:=XAA hpq;have n1:¬n<1:=by omega
  have n2:¬c<n:=qd;have n3:(a !=a)=false:=ql;have wr3:IntKind.i64.wrap (c-n)=c-n:=XAM _ qd;clear h hk ha hc ht hpq;go_enter func99,ntmps99;go_wp2_with (first|(go_at_call 140;refine Xr (jW _ HS.out k hk'.out) ?_)|(go_at_call 141;refine(Ai _ a (c-n)).mono ?_;rintro e w1 ⟨rfl,hb1⟩;rw [HP.out];have hS1:=HS.out.below hb1;have e1:=hS1.row.frz (k*2);have e2:=hS1.row.frz (k*2+1);have e3:=(hb1.cell (p:=⟨g,k*2,none⟩) gl).trans c1;have e4:=(hb1.cell (p:=⟨g,k*2+1,none⟩) gl).trans c2));go_ret;exact⟨R,hS1.set k p q hr,((Rws.of_below _ hb1).set ql _ _).set ql _ _⟩
 .rw [ht,XAS hyes,XC4,WC];rcases (by omega:n<1\/(¬n<1/\c<n)\/(¬n<1/\¬c<n/\a≠x)) with y|⟨y1,y2⟩|⟨y1,y2,y3⟩
  .clear h hk ha hc ht hyes;go_enter func99,ntmps99;go_wp2_with (first|(go_at_call 140;refine Xr (jW _ HS.out k hk'.out) ?_));go_ret;exact⟨R,HS.out,Rws.refl _ _⟩
  .clear h hk ha hc ht hyes;go_enter func99,ntmps99;go_wp2_with (first|(go_at_call 140;refine Xr (jW _ HS.out k hk'.out) ?_));go_ret;exact⟨R,HS.out,Rws.refl _ _⟩
  .have n3:(a !=x)=true:=by simp [y3]
   clear h hk ha hc ht hyes;go_enter func99,ntmps99;go_wp2_with (first|(go_at_call 140;refine Xr (jW _ HS.out k hk'.out) ?_));go_ret;exact⟨R,HS.out,Rws.refl _ _⟩
end
theorem Zh(a c:Int)(w:World):(binOp .neq 243 (.agg #[I a,I c]) (.agg #[I 0,I 0])).run prog w=.ok (.bool (!((a==0) && (c==0)))) w:=by
 have h:∀x y:Bool,(!x|| !y)= !(x && y):=qf;by_cases ha:a=0<;>by_cases hc:c=0<;>simp [go_sem,ha,hc]
section
variable{w w':World}{b g C:Nat}{X:Nat->Int × Int}
theorem abz(w:World)(h:eo w b g C X)(k:Nat)(hk:k<C):Z 128 #[(b,0),I k] w λe w'=>
  e=.returned (.tuple #[I (X k).1,I (X k).2])/\Below w w w':=by
 have HS:=XAA h;have c1:=h.c1 hk;have c2:=h.c2 hk;have gl:=h.row.lt;have hk':=XAA hk;clear h hk;go_enter func128,ntmps128;go_wp2_with (first|(go_at_call 140;refine Xr (jW _ HS.out k hk'.out) ?_));(refine ba (w.heap.size) (λhxc aA hxh hxn=>?_);(repeat (go_big_quiet_step (fail)));refine XAG ?_;clear hxc aA hxh hxn;intro w1 hb1 hz1 hc1 hf1);go_wp2
 go_ret2
 exact⟨R,hb1⟩
theorem aaJ(w:World)(h:eo w b g C X)(k:Nat)(hk:k<C):Z 129 #[(b,0),I k] w λe w'=>
  e=.returned (.tuple #[I (X k).1,I (X k).2])/\eo w' b g C (λj=>if j=k then(0,0) else X j)/\Rws [g] w w':=by
 have HS:=XAA h;have hk':=XAA hk;obtain⟨a,ha⟩:=Xq ((X k).1);obtain⟨c,hc⟩:=Xq ((X k).2);have c1:=h.c1 hk;have c2:=h.c2 hk;have gl:=h.row.lt;have f1:=h.row.frz (k*2);have f2:=h.row.frz (k*2+1);rw [ha] at c1 ⊢;rw [hc] at c2 ⊢;clear h hk ha hc;go_enter func129,ntmps129;go_wp2_with (first|(go_at_call 140;refine Xr (jW _ HS.out k hk'.out) ?_));have hz:((w.setCell (g,k*2) (I 0)).setCell (g,k*2+1) (I 0)).heap.size=w.heap.size:=qbt
 have hX:=ak.new ((w.setCell (g,k*2) (I 0)).setCell (g,k*2+1) (I 0)) 243 #[I a,I c];rw [hz] at hX;have hS1:=(HS.out.set k 0 0 ⟨XBG _,qd⟩).below ((XAC _ _).alloc (XAB _) (.cells #[I a,I c] 243));have hT1:=((((Rws.refl [g] w).set (g:=g) ql (k*2) (I 0)).set (g:=g) ql (k*2+1) (I 0))).trans (Rws.of_below [g] ((XAC _ _).alloc (XAB _) (.cells #[I a,I c] 243)));generalize (((w.setCell (g,k*2) (I 0)).setCell (g,k*2+1) (I 0)).alloc (.cells #[I a,I c] 243))=W1 at hX hS1 hT1 ⊢;have x0:W1.cell? (w.heap.size,0)=I a:=hX.cell 0;have x1:W1.cell? (w.heap.size,1)=I c:=hX.cell 1;have xl:=hX.lt;clear hX c1 c2 f1 f2 hz;(refine ba (W1.heap.size) (λhxc aA hxh hxn=>?_);(repeat (go_big_quiet_step (fail)));refine XAG ?_;clear hxc aA hxh hxn;intro w1 hb1 hz1 hc1 hf1);go_wp2
 go_ret2
 exact⟨R,hS1.below hb1,hT1.trans (Rws.of_below _ hb1)⟩
theorem abB(w:World)(h:eo w b g C X)(k:Nat)(hk:k<C)(x n:Int):Z 144 #[(b,0),I k,I x,I n] w λe w'=>
  ∃(u v er:Int)(X':Nat->Int × Int),e=.returned (.tuple #[I u,I v,I er])/\eo w' b g C X'/\Rws [g] w w':=by
 have HS:=XAA h;have hk':=XAA hk;obtain⟨a,ha⟩:=Xq ((X k).1);obtain⟨c,hc⟩:=Xq ((X k).2);have c0:=h.blk.cell 0;have bl:=h.blk.lt;have hC0:((C:Int)==0)=false:=qec
 have c1:=h.c1 hk;have c2:=h.c2 hk;have gl:=h.row.lt;have f1:=h.row.frz (k*2);have f2:=h.row.frz (k*2+1);have rng:=h.rng k;rw [ha] at c1;rw [hc] at c2 rng;rcases (by omega:x<1\/(¬x<1/\16<x)\/(¬x<1/\¬16<x/\n<0)\/(¬x<1/\¬16<x/\¬n<0/\9007199254740991<n)\/(¬x<1/\¬16<x/\¬n<0/\¬9007199254740991<n)) with y|⟨y1,y2⟩|⟨y1,y2,y3⟩|⟨y1,y2,y3,y4⟩|⟨y1,y2,y3,y4⟩
 iterate 4
  .clear h hk ha hc rng;go_enter func144,ntmps144;go_wp2_with (first|(go_at_call 140;refine Xr (jW _ HS.out k hk'.out) ?_));go_ret3;exact⟨0,0,_,X,R,HS.out,Rws.refl _ _⟩
 .have q:=Zh a c;have hX:=ak.new w 243 #[I a,I c];have ev:Below w w (w.alloc (.cells #[I a,I c] 243)):=(XAC _ _).alloc (XAB _) _;by_cases hd:((a==0) && (c==0))=false/\a≠x
  .obtain⟨hd1,hd2⟩:=hd;have hd3:(a !=x)=true:=by simp [hd2]
   rw [hd1] at q;rcases (by omega:1024<n\/¬1024<n) with z|z
   .clear h hk ha hc rng hd1 hd2;go_enter func144,ntmps144;go_wp2_with (first|(go_at_call 140;refine Xr (jW _ HS.out k hk'.out) ?_));go_ret3;exact⟨0,0,_,X,R,HS.out.below ev,Rws.of_below _ ev⟩
   .obtain⟨p,r,hpr⟩:∃p r,lY x n=(p,r):=⟨_,_,R⟩;have hr:=Ah (x:=x) (n:=n) ⟨qd,qd⟩;rw [hpr] at hr;have HP:=XAA hpr;clear h hk ha hc rng hd1 hd2 hpr;go_enter func144,ntmps144;go_wp2_with (first|(go_at_call 140;refine Xr (jW _ HS.out k hk'.out) ?_)|(go_at_call 141;refine(Ai _ x n).mono ?_;rintro e w1 ⟨rfl,hb1⟩;rw [HP.out];have hS1:=(HS.out.below ev).below hb1;have e1:=hS1.row.frz (k*2);have e2:=hS1.row.frz (k*2+1);have e3:=(hb1.cell (p:=⟨g,k*2,none⟩) (XAH gl ev.size)).trans ((ev.cell (p:=⟨g,k*2,none⟩) gl).trans c1);have e4:=(hb1.cell (p:=⟨g,k*2+1,none⟩) (XAH gl ev.size)).trans ((ev.cell (p:=⟨g,k*2+1,none⟩) gl).trans c2);have e5:w1.cell? (w.heap.size,0)=I a:=(hX.below hb1).cell 0;have e6:w1.cell? (w.heap.size,1)=I c:=(hX.below hb1).cell 1));have hS2:=hS1.set k p r hr;have hX2:=((hX.below hb1).far (p:=⟨g,k*2,none⟩) (λe=>by have:w.heap.size=g:=e;omega) (I p)).far (p:=⟨g,k*2+1,none⟩) (λe=>by have:w.heap.size=g:=e;omega) (I r);have hT2:=((Rws.of_below [g] (ev.trans (hb1.mono ev.size))).set (g:=g) ql (k*2) (I p)).set (g:=g) ql (k*2+1) (I r);generalize (w1.setCell (g,k*2) (I p)).setCell (g,k*2+1) (I r)=W1 at hS2 hX2 hT2 ⊢;have x0:W1.cell? (w.heap.size,0)=I a:=hX2.cell 0;have x1:W1.cell? (w.heap.size,1)=I c:=hX2.cell 1;have xl:=hX2.lt;clear e1 e2 e3 e4 e5 e6 c1 c2 f1 f2 hX hX2 hS1;(refine ba (W1.heap.size) (λhxc aA hxh hxn=>?_);(repeat (go_big_quiet_step (fail)));refine XAG ?_;clear hxc aA hxh hxn;intro w1 hb1 hz1 hc1 hf1);go_wp2;go_ret3;exact⟨_,_,_,_,R,hS2.below hb1,hT2.trans (Rws.of_below _ hb1)⟩
  .have wr2:IntKind.i64.wrap (c+n)=c+n:=XAM _ qd;cases hd1:((a==0) && (c==0))
   .have hax:a=x:=XEd λhne=>hd ⟨hd1,hne⟩;subst hax;have hd3:(a !=a)=false:=by simp
    rw [hd1] at q;clear hd1;rcases (by omega:1024<c+n\/¬1024<c+n) with z|z
    .have wr3:IntKind.i64.wrap (c+n-512)=c+n-512:=XAM _ qd;clear h hk ha hc rng hd;go_enter func144,ntmps144;go_wp2_with (first|(go_at_call 140;refine Xr (jW _ HS.out k hk'.out) ?_));go_ret3;exact⟨_,_,_,_,R,(HS.out.set k a 512 ⟨qd,qd⟩).below ((XAC _ _).alloc (XAB _) _),(((Rws.refl [g] w).set (g:=g) ql (k*2) _).set (g:=g) ql (k*2+1) _).trans (Rws.of_below [g] ((XAC _ _).alloc (XAB _) _))⟩
    .obtain⟨p,r,hpr⟩:∃p r,lY a (c+n)=(p,r):=⟨_,_,R⟩;have hr:=Ah (x:=a) (n:=c+n) ⟨qd,qd⟩;rw [hpr] at hr;have HP:=XAA hpr;clear h hk ha hc rng hd hpr;go_enter func144,ntmps144;go_wp2_with (first|(go_at_call 140;refine Xr (jW _ HS.out k hk'.out) ?_)|(go_at_call 141;refine(Ai _ a (c+n)).mono ?_;rintro e w1 ⟨rfl,hb1⟩;rw [HP.out];have hS1:=(HS.out.below ev).below hb1;have e1:=hS1.row.frz (k*2);have e2:=hS1.row.frz (k*2+1);have e3:=(hb1.cell (p:=⟨g,k*2,none⟩) (XAH gl ev.size)).trans ((ev.cell (p:=⟨g,k*2,none⟩) gl).trans c1);have e4:=(hb1.cell (p:=⟨g,k*2+1,none⟩) (XAH gl ev.size)).trans ((ev.cell (p:=⟨g,k*2+1,none⟩) gl).trans c2);have e5:w1.cell? (w.heap.size,0)=I a:=(hX.below hb1).cell 0;have e6:w1.cell? (w.heap.size,1)=I c:=(hX.below hb1).cell 1));go_ret3;exact⟨_,_,_,_,R,hS1.set k p r hr,((Rws.of_below [g] (ev.trans (hb1.mono ev.size))).set (g:=g) ql (k*2) _).set (g:=g) ql (k*2+1) _⟩
   .rw [hd1] at q;clear hd1;rcases (by omega:1024<c+n\/¬1024<c+n) with z|z
    .have wr3:IntKind.i64.wrap (c+n-512)=c+n-512:=XAM _ qd;clear h hk ha hc rng hd;go_enter func144,ntmps144;go_wp2_with (first|(go_at_call 140;refine Xr (jW _ HS.out k hk'.out) ?_));go_ret3;exact⟨_,_,_,_,R,(HS.out.set k x 512 ⟨qd,qd⟩).below ((XAC _ _).alloc (XAB _) _),(((Rws.refl [g] w).set (g:=g) ql (k*2) _).set (g:=g) ql (k*2+1) _).trans (Rws.of_below [g] ((XAC _ _).alloc (XAB _) _))⟩
    .obtain⟨p,r,hpr⟩:∃p r,lY x (c+n)=(p,r):=⟨_,_,R⟩;have hr:=Ah (x:=x) (n:=c+n) ⟨qd,qd⟩;rw [hpr] at hr;have HP:=XAA hpr;clear h hk ha hc rng hd hpr;go_enter func144,ntmps144;go_wp2_with (first|(go_at_call 140;refine Xr (jW _ HS.out k hk'.out) ?_)|(go_at_call 141;refine(Ai _ x (c+n)).mono ?_;rintro e w1 ⟨rfl,hb1⟩;rw [HP.out];have hS1:=(HS.out.below ev).below hb1;have e1:=hS1.row.frz (k*2);have e2:=hS1.row.frz (k*2+1);have e3:=(hb1.cell (p:=⟨g,k*2,none⟩) (XAH gl ev.size)).trans ((ev.cell (p:=⟨g,k*2,none⟩) gl).trans c1);have e4:=(hb1.cell (p:=⟨g,k*2+1,none⟩) (XAH gl ev.size)).trans ((ev.cell (p:=⟨g,k*2+1,none⟩) gl).trans c2);have e5:w1.cell? (w.heap.size,0)=I a:=(hX.below hb1).cell 0;have e6:w1.cell? (w.heap.size,1)=I c:=(hX.below hb1).cell 1));go_ret3;exact⟨_,_,_,_,R,hS1.set k p r hr,((Rws.of_below [g] (ev.trans (hb1.mono ev.size))).set (g:=g) ql (k*2) _).set (g:=g) ql (k*2+1) _⟩
theorem WO:(prog.info? 243).map (λi=>(i.zero,i.size,i.bytes))=some (some (.agg #[I 0,I 0]),2,16):=qh
theorem abD(C:Nat):(madeCells #[I 0,I 0] (C*2)).toList=jX C (λ_=>(0,0)):=by
 apply XA5;intro j;rw [XBO];by_cases hj:j<C*2
 .rw [ug hj qf];obtain⟨a1,a2⟩:=uz C (λ_=>((0:Int),(0:Int))) (j / 2) qd;rcases (by omega:j=j / 2*2\/j=j / 2*2+1) with e|e
  .rw [e,a1,<-e];have:j % 2=0:=by omega
   simp [this]
  .rw [e,a2,<-e];have:j % 2=1:=by omega
   simp [this]
 .rw [XAz qed,XAd (by rw [wR];omega)]
def OL(w:World)(C:Nat)(e:Ending)(w':World):Prop:=
 ∃b g,e=.returned (.tuple #[(b,0),I 0])/\w.heap.size<=b/\w.heap.size<=g/\eo w' b g C (λ_=>(0,0))/\Below w w w'
theorem abA(w:World)(C:Nat)(h1:1<=C)(h2:C<=8):Z 25 #[I C] w (OL w C):=by
 have m1:=λv=>nZ (P:=prog) 122 243 (.agg #[I 0,I 0]) 16 2 underlying122 WO .i64 .i64 C qd qd v;have a1:¬(C:Int)<1:=qd
 have a2:¬(8:Int)<(C:Int):=qd;go_enter func25,ntmps25;go_wp2
 go_ret2
 refine⟨w.heap.size+1,w.heap.size,R,XAU _,XAB _,⟨?_,?_,λ_=>⟨XBG _,by show(0:Int)<=1024;omega⟩⟩,qa⟩
 .exact ak.new2 _ _ _ _
 .have h5:=(ak.new w 243 (madeCells #[I 0,I 0] (C*2))).alloc (.cells #[.slice (w.heap.size,0) C C] 124);have h6:=aG.jP h5;rw [abD] at h6;exact h6
end
end Go.Proofs.YtedefgjfgdcfdaaGreatDoor
