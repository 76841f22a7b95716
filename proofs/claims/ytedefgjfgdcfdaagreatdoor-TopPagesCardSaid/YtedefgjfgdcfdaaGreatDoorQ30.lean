/- Walks and laws for TopPages. -/
import Derived.Test.YtedefgjfgdcfdaaGreatDoorQ29
namespace Go.Proofs.YtedefgjfgdcfdaaGreatDoor
open Go.RowKit Go.Proofs.Tryz
set_option maxRecDepth 100000
set_option maxHeartbeats 4000000
def cd(cl:Nat->Nat)(w w':World)(f:Nat->Nat):Nat->Nat:=λk=>if k<w.heap.size then cl k else if k<w'.heap.size then f k else 0
def Rn(cl aD:Nat->Nat)(k:Nat):Prop:=∀b,cl b≠40+k->cl b≠50+k->aD b=cl b
section
variable{A:KA}{M:KS}{cl aD:Nat->Nat}{w w':World}{js:List Nat}{c e size n k i s b g C:Nat}{v:Value}{xs:List Value}{f:Nat->Nat}
theorem pW(h:k<w.heap.size):cd cl w w' f k=cl k:=XAE h
theorem kX(h:w.heap.size<=k)(h':k<w'.heap.size):cd cl w w' f k=f k:=by unfold cd;rw [XAD qd,XAE h']
theorem L6(h:w'.heap.size<=k)(hs:w.heap.size<=w'.heap.size):cd cl w w' f k=0:=by unfold cd;rw [XAD qd,XAD qd]
theorem Mv.cd(hm:Md cl js w w')(f:Nat->Nat):Mv js cl (cd cl w w' f) w w':=⟨hm,λ_ h _=>pW h,λ_ h=>L6 h hm.size⟩
theorem Rn.at_(h:Rn cl aD k)(h0:cl b=c)(d:c≠40+k)(d':c≠50+k):aD b=c:=(h b qjg (by rw [h0];exact d')).trans h0
theorem Own.ren(h:Own cl c w e size v n xs)(r:Rn cl aD k)(d:c≠40+k)(d':c≠50+k):Own aD c w e size v n xs:=⟨h.1,λg hg=>⟨(h.2 g hg).1,r.at_ (h.2 g hg).2 d d'⟩⟩
theorem ie.ren(h:ie cl c w v xs)(r:Rn cl aD k)(d:c≠40+k)(d':c≠50+k):ie aD c w v xs:=by
 obtain⟨A,cap,e,hn,hr,hk⟩:=h;exact⟨A,cap,e,hn,hr,λhp g off e=>r.at_ (hk hp g off e) d d'⟩
theorem ou.ren{t:TypeId}(h:ou cl w t)(r:Rn cl aD k)(hk:k<8):ou aD w t:=⟨h.1,r.at_ h.2 qd qd⟩
theorem oL.ren{cs:Array Value}(h:oL cl w b cs)(r:Rn cl aD k)(hk:k<8):oL aD w b cs:=⟨h.1,r.at_ h.2 qd qd⟩
theorem bA.ren{g n cap:Nat}{G:Nat->Gp}(h:bA cl 2 w b g n cap G)(r:Rn cl aD k)(hk:k<8):bA aD 2 w b g n cap G:=⟨h.blk,h.own.ren r qd qd,r.at_ h.cb qd qd,h.ok⟩
theorem mU.ren(h:mU cl w b)(r:Rn cl aD k)(hk:k<8):mU aD w b:=⟨h.1,r.at_ h.2 qd qd⟩
theorem m9.ren(h:m9 cl w b g C)(r:Rn cl aD k)(hk:k<8):m9 aD w b g C:=⟨h.1,r.at_ h.2.1 qd qd,r.at_ h.2.2 qd qd⟩
theorem kn.ren{m:Nat}(h:kn cl w b m s)(r:Rn cl aD k)(hk:k<8):kn aD w b m s:=⟨h.1,r.at_ h.2.1 qd qd,r.at_ h.2.2 qd qd⟩
theorem cI.ren{lb:Nat}{L:Nat->List Nat}{V:Nat->Value}(h:cI cl 62 w b lb C L V)(r:Rn cl aD k)(hk:k<8):cI aD 62 w b lb C L V:=
 ⟨h.blk,h.row,λi hi=>(h.own i hi).ren r qd qd,h.apart,h.len,h.c1,h.c8,r.at_ h.cb qd qd,r.at_ h.aK qd qd⟩
theorem aR.ren{A:i_}{T:Tab}{L:Nat->List Nat}{F:Int->Option Int}{q:Nat}(h:aR cl w A T L F q)(r:Rn cl aD k)(hk:k<8):aR aD w A T L F q:=
 ⟨h.blk,h.bd,h.nr.imp λ_ x=>x.ren r hk,h.mp,h.all,r.at_ h.cz qd qd,r.at_ h.cb qd qd,r.at_ h.cg qd qd,r.at_ h.cc qd qd,h.qb⟩
theorem jv.ren{G:Gr}(h:jv cl w b G)(r:Rn cl aD k)(hk:k<8):jv aD w b G:=by
 obtain⟨h1,h2,gs,h3,h4⟩:=h;exact⟨r.at_ h1 qd qd,h2,gs,h3,λj hj h7=>h4 j hj λe=>h7 (r.at_ e qd qd)⟩
theorem j6.ren{x:Cc}(h:j6 cl w C i s x)(r:Rn cl aD k)(hk:k<8):j6 aD w C i s x:=
 ⟨h.blk,h.pg,h.pl,h.pk,h.cr,h.cC,h.od,h.qs,h.ns,r.at_ h.c0 qd qd,r.at_ h.c1 qd qd,r.at_ h.c2 qd qd,r.at_ h.c3 qd qd,r.at_ h.c4 qd qd,r.at_ h.c5 qd qd⟩
theorem l_.ren{cs:List Cc}(h:l_ cl w C s v cs)(r:Rn cl aD k)(hk:k<8):l_ aD w C s v cs:=⟨h.1.ren r qd qd,λi x hx=>(h.2 i x hx).ren r hk⟩
theorem rv.ren{hs:List Hn}(h:rv cl w v hs)(r:Rn cl aD k)(hk:k<8):rv aD w v hs:=Own.ren h r qd qd
theorem mV.ren{fr:Nat->Fm}(h:mV cl w b C fr)(r:Rn cl aD k)(hk:k<8):mV aD w b C fr:=⟨h.1,r.at_ h.2 qd qd⟩
theorem gF.ren{f:Fm}(h:gF cl w i f)(r:Rn cl aD k)(hk:k<8)(hi:i<8)(hn:i≠k):gF aD w i f:=⟨h.1.ren r qd qd,h.2.ren r qd qd⟩
theorem rA.ren(h:rA cl w A)(r:Rn cl aD k)(hk:k<8):rA aD w A:=⟨h.1,r.at_ h.2.1 qd qd,λi hi=>(h.2.2 i hi).ren r qd qd⟩
theorem Ui(n:Nat):j9 A M i (dV n):=⟨λ_ h=>qck,XAJ _,λ_ h=>qck,XAJ _,λh=>qck⟩
theorem KM.did(h:KM A w M)(hk:k<A.C)(d:Dd)(hd:d.hv=(M.fr k).hv)(hds:d.hs=(M.fr k).hs)(hn:M.ds.length+1<=30*M.s)(nx:Nat){dv:Value}(hm:Md M.cl [1,10,11] w w')(hb:ak w' A.kb 58 (kR A { M with dv:=dv }))
 (ho:w'.ownsRow 0 107 6 dv (M.ds.length+1) (M.ds.flatMap f_++f_ d))(hq:∀g,dv.ownBlock=some g->M.dv.ownBlock=some g\/w.heap.size<=g)(hfr:aG w' A.fb 159 (bM A.C λj=>bf (aL M.fr k (dV nx) j))):
  ∃c2,KM A w' { M with cl:=c2,dv:=dv,ds:=M.ds++ [d],fr:=aL M.fr k (dV nx) } /\KF [] M.cl c2 w w':=by
 have hc8:=h.ok.c8;have hk8:k<8:=qd
 have m:=Mv.up hm 11;obtain⟨c1,hc1⟩:=Xq (iU M.cl w w' 11);rw [hc1] at m;have hold:∀b,b<w.heap.size->c1 b=M.cl b:=λb hb=>by rw [<-hc1];exact lX hb
 have r:Rn c1 (λb=>if c1 b=40+k then 20 else if c1 b=50+k then 0 else c1 b) k:=λb h1 h2=>by show(if c1 b=40+k then 20 else if c1 b=50+k then 0 else c1 b)=_;rw [XAD h1,XAD h2]
 have ok:=h.ok.tQ (i:=k) (f:=dV nx) (Ui nx);have hdk:Own (λb=>if c1 b=40+k then 20 else if c1 b=50+k then 0 else c1 b) 20 w' 3 1 d.hv d.hs.length (d.hs.map nV):=by have h1:=(h.fa k hk).2.mv m qj qd;rw [<-hd,<-hds] at h1;exact⟨h1.1,λg hg=>⟨(h1.2 g hg).1,XAE (h1.2 g hg).2⟩⟩
 refine⟨_,⟨(h.gn.mv m qf).ren r hk8,oL.ren (k:=k) ⟨hb,m.at_ h.k.1.lt h.k.2 qf⟩ r hk8,(h.tr.mv m qf qf).ren r hk8,(h.ch.mv m qf).ren r hk8,(h.st.mv m qf).ren r hk8,(h.ow.mv m qf).ren r hk8,
  (h.zn.mv m qf qf qf qf).ren r hk8,(h.gr.mv m qf qf).ren r hk8,(h.cs.mv h.ok.cs m ql).ren r hk8,(h.hs.mv m qf).ren r hk8,mV.ren (k:=k) ⟨hfr,m.at_ h.fr.1.lt h.fr.2 qf⟩ r hk8,
  λj hj=>?_,⟨?_,λx hx=>?_⟩,(h.sc.mv m qf).ren r hk8,λb hb=>?_,⟨ok.c1,ok.c8,ok.zC,ok.gP,ok.ag,ok.zq,ok.cs,ok.hs,by show(M.ds++ [d]).length<=_;rw [XAZ];exact hn,ok.hc,ok.ac,ok.al,ok.fh,ok.fl,ok.bu,ok.kl,ok.ko,ok.gi⟩⟩,
  hm.os,hm.tape,hm.output,hm.size,λb hb _ h0=>?_,λb hb _ h0=>hm.block b hb qko⟩
 .show gF _ w' j (aL M.fr k (dV nx) j);by_cases e:j=k
  .subst e;rw [b_];exact⟨ie.nil _ _ _,Own.nil _ _ _ _ _⟩
  .rw [cP e];exact((h.fa j hj).mv m qj qj).ren r hk8 qd e
 .show Own _ 11 w' _ 6 dv (M.ds++ [d]).length ((M.ds++ [d]).flatMap f_);rw [XAZ,XCJ,show [d].flatMap f_=f_ d from ql];refine Own.ren (k:=k) (cl:=c1) ⟨ho,λg hg=>⟨cO ho hg,?_⟩⟩ r qd qd;have hl:=cO ho hg;rcases hq g hg with e|e
  .rw [hold g (h.ds.1.2 g e).1];exact(h.ds.1.2 g e).2
  .rw [<-hc1];exact wV e hl
 .rcases XAe.1 hx with hx|hx
  .exact((h.ds.2 x hx).mv m qf qf).ren r qd qd
  .simp at hx;subst hx;exact hdk
 .show(if c1 b=40+k then 20 else if c1 b=50+k then 0 else c1 b)=0;have:=m.new b hb;rw [XAD qd,XAD qd];exact this
 .show(if c1 b=40+k then 20 else if c1 b=50+k then 0 else c1 b)=0;have:=(hold b hb).trans h0;rw [XAD qd,XAD qd];exact this
theorem KM.hand(h:KM A w M)(hk:k<A.C)(y:Hn)(hy:y.ca<M.cs.length)(hn:M.hs.length+1<=30*M.s)(hn2:(M.fr k).hs.length+1<=30*M.s){v1 v2:Value}(hm:Md M.cl [1,9,10,40+k] w w')(hb:ak w' A.kb 58 (kR A { M with hv:=v2 }))
 (o1:w'.ownsRow 0 3 1 v1 ((M.fr k).hs.length+1) ((M.fr k).hs.map nV++ [nV M.hs.length]))(o2:w'.ownsRow 0 68 5 v2 (M.hs.length+1) (M.hs.flatMap cB++cB y))
 (q1:∀g,v1.ownBlock=some g->(M.fr k).hv.ownBlock=some g\/w.heap.size<=g)(q2:∀g,v2.ownBlock=some g->M.hv.ownBlock=some g\/w.heap.size<=g)(hne:∀g,v1.ownBlock=some g->v2.ownBlock=some g->False)
 (hfr:aG w' A.fb 159 (bM A.C λj=>bf (aL M.fr k { M.fr k with hv:=v1,hs:=(M.fr k).hs++ [M.hs.length] } j))):
  ∃c2,KM A w' { M with cl:=c2,hv:=v2,hs:=M.hs++ [y],fr:=aL M.fr k { M.fr k with hv:=v1,hs:=(M.fr k).hs++ [M.hs.length] } } /\KF [] M.cl c2 w w':=by
 have hc8:=h.ok.c8;have m:=Mv.cd hm (λb=>if v1.ownBlock=some b then 40+k else if v2.ownBlock=some b then 9 else 0);obtain⟨c1,hc1⟩:=Xq (cd M.cl w w' (λb=>if v1.ownBlock=some b then 40+k else if v2.ownBlock=some b then 9 else 0));rw [hc1] at m;have hold:∀b,b<w.heap.size->c1 b=M.cl b:=λb hb=>by rw [<-hc1];exact pW hb
 have hl:(M.hs++ [y]).length=M.hs.length+1:=by rw [XAZ];rfl
 have hfa:=(h.fa k hk);have hown1:Own c1 (40+k) w' 3 1 v1 ((M.fr k).hs.length+1) ((M.fr k).hs.map nV++ [nV M.hs.length]):=⟨o1,λg hg=>⟨cO o1 hg,by
  rcases q1 g hg with e|e
  .rw [hold g (hfa.2.2 g e).1];exact(hfa.2.2 g e).2
  .rw [<-hc1,kX e (cO o1 hg)];exact XAE hg⟩⟩
 have hown2:Own c1 9 w' 68 5 v2 (M.hs.length+1) (M.hs.flatMap cB++cB y):=⟨o2,λg hg=>⟨cO o2 hg,by
  have hh:Own M.cl 9 w _ 5 M.hv _ _:=h.hs
  rcases q2 g hg with e|e
  .rw [hold g (hh.2 g e).1];exact(hh.2 g e).2
  .rw [<-hc1,kX e (cO o2 hg)];show(if v1.ownBlock=some g then 40+k else _)=9;rw [XAD λe=>hne g e hg];exact XAE hg⟩⟩
 have hfo:∀j,(aL M.fr k { M.fr k with hv:=v1,hs:=(M.fr k).hs++ [M.hs.length] } j).acts=(M.fr j).acts:=λj=>by
  unfold aL;split
  .rename_i e;rw [e]
  .rfl
 have hnb:∀j,(aL M.fr k { M.fr k with hv:=v1,hs:=(M.fr k).hs++ [M.hs.length] } j).next=(M.fr j).next/\(aL M.fr k { M.fr k with hv:=v1,hs:=(M.fr k).hs++ [M.hs.length] } j).busy=(M.fr j).busy:=λj=>by
  unfold aL;split
  .rename_i e;rw [e];exact⟨R,R⟩
  .exact⟨R,R⟩
 refine⟨c1,⟨h.gn.mv m qj,⟨hb,m.at_ h.k.1.lt h.k.2 qf⟩,h.tr.mv m qj qf,h.ch.mv m qj,h.st.mv m qj,h.ow.mv m qj,
  h.zn.mv m qj qj qj qj,h.gr.mv m qj qj,h.cs.mv h.ok.cs m (by intro j hj;simp at hj;omega),?_,⟨hfr,m.at_ h.fr.1.lt h.fr.2 qf⟩,
  λj hj=>?_,h.ds.mv m qj qj,h.sc.mv m qj,m.new,⟨h.ok.c1,h.ok.c8,h.ok.zC,h.ok.gP,h.ok.ag,h.ok.zq,h.ok.cs,by show(M.hs++ [y]).length<=_;rw [hl];exact hn,h.ok.ds,λx hx=>?_,λj hj a ha=>?_,λj hj=>?_,λj hj x hx=>?_,λj hj=>?_,λj hj hbu=>?_,h.ok.kl,h.ok.ko,h.ok.gi⟩⟩,
  hm.os,hm.tape,hm.output,hm.size,λb hb _ h0=>(hold b hb).trans h0,λb hb _ h0=>hm.block b hb (by rw [h0];simp;omega)⟩
 .show Own c1 9 w' _ 5 v2 (M.hs++ [y]).length ((M.hs++ [y]).flatMap cB);rw [hl,XCJ,show [y].flatMap cB=cB y from ql];exact hown2
 .show gF _ w' j (aL M.fr k _ j);by_cases e:j=k
  .subst e;rw [b_];refine⟨hfa.1.mv m qj qd,?_⟩;show Own c1 (40+j) w' _ 1 v1 ((M.fr j).hs++ [M.hs.length]).length (((M.fr j).hs++ [M.hs.length]).map nV);rw [XAZ,XBB];exact hown1
  .rw [cP e];exact(h.fa j hj).mv m qj qj
 .rcases XAe.1 hx with hx|hx
  .exact h.ok.hc x hx
  .simp at hx;subst hx;exact hy
 .have ha':=ha;dsimp only at ha';rw [hfo j] at ha';refine(h.ok.ac j hj a ha').mono (XAB _) (by show _<=(M.hs++ [y]).length;omega) (XAB _) h.tr.ok λ_ _=>rfl
 .show(aL M.fr k _ j).acts.length<=_;rw [hfo j];exact h.ok.al j hj
 .show x<(M.hs++ [y]).length;have hx':x∈(aL M.fr k { M.fr k with hv:=v1,hs:=(M.fr k).hs++ [M.hs.length] } j).hs:=hx;by_cases e:j=k
  .subst e;rw [b_] at hx';rcases XAe.1 hx' with hx'|hx'
   .have:=h.ok.fh j hj x hx';omega
   .simp at hx';omega
  .rw [cP e] at hx';have:=h.ok.fh j hj x hx';omega
 .show(aL M.fr k _ j).hs.length<=_;by_cases e:j=k
  .subst e;rw [b_];show((M.fr j).hs++ [M.hs.length]).length<=_;rw [XAZ];exact hn2
  .rw [cP e];exact h.ok.fl j hj
 .have IP:(aL M.fr k { M.fr k with hv:=v1,hs:=(M.fr k).hs++ [M.hs.length] } j).busy=true:=hbu;show(aL M.fr k { M.fr k with hv:=v1,hs:=(M.fr k).hs++ [M.hs.length] } j).next<_
  rw [(hnb j).1];rw [(hnb j).2] at IP;exact h.ok.bu j hj IP
theorem KM.cache(h:KM A w M)(x:Cc)(hn:M.cs.length<8){v2:Value}(hm:Md M.cl [1,8] w w')(hb:ak w' A.kb 58 (kR A { M with cv:=v2 }))(o2:w'.ownsRow 0 196 1 v2 (M.cs.length+1) (M.cs.map jo++ [jo x]))
 (q2:∀g,v2.ownBlock=some g->M.cv.ownBlock=some g\/w.heap.size<=g){f:Nat->Nat}(hf:∀g,v2.ownBlock=some g->w.heap.size<=g->f g=8)
 (hx:j6 (cd M.cl w w' f) w' A.C M.cs.length M.s x):KM A w' { M with cl:=cd M.cl w w' f,cv:=v2,cs:=M.cs++ [x] } /\KF [] M.cl (cd M.cl w w' f) w w':=by
 have hc8:=h.ok.c8;have m:=Mv.cd hm f;have hold:∀b,b<w.heap.size->cd M.cl w w' f b=M.cl b:=λb hb=>pW hb;have hl:(M.cs++ [x]).length=M.cs.length+1:=by rw [XAZ];rfl
 refine⟨⟨h.gn.mv m qf,⟨hb,m.at_ h.k.1.lt h.k.2 qf⟩,h.tr.mv m qf qf,h.ch.mv m qf,h.st.mv m qf,h.ow.mv m qf,h.zn.mv m qf qf qf qf,h.gr.mv m qf qf,⟨?_,λi z hz=>?_⟩,h.hs.mv m qf,h.fr.mv m qf,
  λj hj=>(h.fa j hj).mv m qj qj,h.ds.mv m qf qf,h.sc.mv m qf,m.new,⟨h.ok.c1,h.ok.c8,h.ok.zC,h.ok.gP,h.ok.ag,h.ok.zq,by show(M.cs++ [x]).length<=_;omega,h.ok.hs,h.ok.ds,λz hz=>by have:=h.ok.hc z hz;show _<(M.cs++ [x]).length;omega,λj hj a ha=>?_,h.ok.al,h.ok.fh,h.ok.fl,h.ok.bu,h.ok.kl,h.ok.ko,λj z hz=>?_⟩⟩,
  hm.os,hm.tape,hm.output,hm.size,λb hb _ h0=>(hold b hb).trans h0,λb hb _ h0=>hm.block b hb qko⟩
 .show Own _ 8 w' _ 1 v2 (M.cs++ [x]).length ((M.cs++ [x]).map jo);rw [hl,XBB];refine⟨o2,λg hg=>⟨cO o2 hg,?_⟩⟩;show cd M.cl w w' f g=8;rcases q2 g hg with e|e
  .rw [hold g (h.cs.1.2 g e).1];exact(h.cs.1.2 g e).2
  .rw [kX e (cO o2 hg)];exact hf g hg e
 .have hz':(M.cs++ [x])[i]? =some z:=hz;rcases XAc i M.cs.length with hi|hi
  .rw [XB0 hi] at hz';exact(h.cs.2 i z hz').mv m λq hq hj=>by simp at hj;omega
  .rw [XBy hi] at hz';have:i=M.cs.length:=by
    rcases XAr (i-M.cs.length) with h0|h0
    .omega
    .rw [XAd qj] at hz';cases hz'
   subst this;simp at hz';subst hz';exact hx
 .exact(h.ok.ac j hj a ha).mono (by show _<=(M.cs++ [x]).length;omega) (XAB _) (XAB _) h.tr.ok λ_ _=>rfl
 .have:=h.ok.gi j z hz;exact⟨this.1,this.2.1,by have:=this.2.2;show _<(((M.cs++ [x]).length:Nat):Int);omega⟩
end
section
variable{A:KA}{M M1 M2:KS}{w w' w2:World}{i k:Nat}{x:Cc}{y:Hn}
def gk(y:Hn):Hn:= { y with out:=false }
def KI(M:KS)(n:Nat)(y:Hn)(f:Nat->Int):KS:= { M with hs:=M.hs.set n (gk y),fly:=f }
def A6(A:KA)(M:KS)(n:Nat)(y:Hn)(w:World)(e:Ending)(w':World):Prop:=
 ∃(B:Option Addr)(c m:Nat)(l:List Ac)(f:Nat->Int),e=.returned (.slice B m c)/\l.length=m/\w'.ownsRow w.heap.size 20 1 (.slice B m c) m (l.map aF)/\KM A w' (KI M n y f)/\KF [] M.cl M.cl w w'/\(∀a∈l,dn M.cs.length M.hs.length M.tn M.G a)/\m<=2/\0<m/\
  (y.gr=0->∃z,l= [⟨173,3,2,y.ca,z⟩]/\(0<=y.sl->y.sl<=1000->0<=y.ob->y.ob<=1000->z=16*y.sl+y.ob))
theorem KM.hat(h:KM A w M){g n L cap:Nat}(hv:M.hv=.slice (g,0) L cap)(hy:M.hs[n]? =some y):Fi g n y w:=by
 obtain⟨g',cap',hv',-,hrd⟩:=h.hav (lt_of_some hy);rw [hv'] at hv;injection hv with e _ _;injection e with e;injection e with e _ _;subst e;exact hrd n y hy
theorem uq{base:Nat}{e:TypeId}{size n:Nat}{v:Value}{xs:List Value}(h:w.ownsRow 0 e size v n xs)(hb:∀g,v.ownBlock=some g->base<=g):w.ownsRow base e size v n xs:=by
 refine⟨h.1,?_⟩;rcases h.2 with h2|⟨g,cap,cur,h3,-,h5⟩
 .exact .inl h2
 .exact .inr ⟨g,cap,cur,h3,hb g (by rw [h3];rfl),h5⟩
theorem Jv{z:Int}(h1:0<=z)(h2:z<=100000):IntKind.i64.wrap z=z:=XAM _ qd
theorem XI{w1 w3:World}{n g3 cap3:Nat}{o:Obj}(hk:KG [9] A M { M with hs:=M.hs.set n (gk y) } w w1)(hc:y.ca<M.cs.length)(hg3:(w1.alloc o).drew.grownBy w3 (Value.slice none 0 0).ownBlock)(hq:some g3=(Value.slice none 0 0).ownBlock\/g3=(w1.alloc o).drew.heap.size)
 (ho3:w3.ownsRow 0 20 1 (.slice (g3,0) (0+1) cap3) (0+1) ([]++ [aF ⟨173,3,2,y.ca,IntKind.i64.wrap (IntKind.i64.wrap (16*y.sl)+y.ob)⟩])):
  A6 A M n y w (.returned (.slice (g3,0) (0+1) cap3)) w3:=by
 have hb:Below w1 w1 w3:=rF (((XAC _ w1).alloc (XAB _) o).drew) hg3 (by show _<=(w1.alloc o).heap.size;simp) λr hr=>by cases hr
 have hge:w.heap.size<=g3:=by
  have:=hk.md.size;rcases hq with e|e
  .cases e
  .have e':g3=(w1.alloc o).heap.size:=e;rw [e'];simp;omega
 refine⟨_,cap3,1, [⟨173,3,2,y.ca,IntKind.i64.wrap (IntKind.i64.wrap (16*y.sl)+y.ob)⟩],M.fly,R,R,uq ho3 (λg hg'=>by
  have:g3=g:=qbg
  rw [<-this];exact hge),hk.km.below hb,(hk.kf qf).then_ (KF.below [] _ hb),λa ha=>?_,qd,qd,λ_=>⟨_,R,λh1 h2 h3 h4=>?_⟩⟩
 .simp at ha;subst ha;exact .inr (.inl ⟨R,by show(0:Int)<=(y.ca:Int);omega,by show(y.ca:Int)<_;omega⟩)
 .rw [Jv (z:=16*y.sl) qd qd,Jv qd qd]
theorem KM.P7(h:KM A w M){B:Nat}(hb:Below B w w')(hB:∀k,B<=k->M.cl k=0)(hs:w.heap.size<=w'.heap.size):KM A w' M:=by
 have m:Mv [0] M.cl M.cl w w':=⟨⟨hb.os,hb.tape,hb.output,hs,λk hk hn=>hb.block k (by rcases XAc k B with h1|h1;exact h1;exact absurd (hB k h1) qhb)⟩,λ_ _ _=>rfl,λk hk=>h.new k (XAL hs hk)⟩;exact⟨h.gn.mv m ql,h.k.mv m ql,h.tr.mv m ql qf,h.ch.mv m ql,h.st.mv m ql,h.ow.mv m ql,h.zn.mv m ql ql ql ql,h.gr.mv m ql ql,h.cs.mv h.ok.cs m ql,h.hs.mv m ql,h.fr.mv m ql,
  λi hi=>(h.fa i hi).mv m ql ql,h.ds.mv m ql ql,h.sc.mv m ql,m.new,h.ok⟩
theorem XJ{w1 w3:World}{n g3 cap3 g4 cap4:Nat}{o:Obj}{f:Nat->Int}{st z:Int}(hnew:∀k,w.heap.size<=k->M.cl k=0)(hk:KG [9,5,1] A M { M with hs:=M.hs.set n (gk y),fly:=f } w w1)(hc:y.ca<M.cs.length)(hg:0<y.gr)(hge:w.heap.size<=g3)(hg4:(w1.alloc o).drew.grownBy w3 (Value.slice (g3,0) (0+1) cap3).ownBlock)
 (hq:some g4=(Value.slice (g3,0) (0+1) cap3).ownBlock\/g4=(w1.alloc o).drew.heap.size)(gU:w3.ownsRow 0 20 1 (.slice (g4,0) (0+1+1) cap4) (0+1+1) (([]++ [aF ⟨157,6,y.gr,st,0⟩])++ [aF ⟨173,3,2,y.ca,z⟩])):
  A6 A M n y w (.returned (.slice (g4,0) (0+1+1) cap4)) w3:=by
 have hsz:=hk.md.size;have hb:Below w.heap.size w1 w3:=rF (((XAC w.heap.size w1).alloc hsz o).drew) hg4 (by show _<=(w1.alloc o).heap.size;simp;omega) λr hr=>by
  have:g3=r:=by simpa [Value.ownBlock] using hr
  omega
 have hge4:w.heap.size<=g4:=by
  rcases hq with e|e
  .have:g4=g3:=by simpa [Value.ownBlock] using e
   omega
  .have e':g4=(w1.alloc o).heap.size:=e;rw [e'];simp;omega
 have hs3:w1.heap.size<=w3.heap.size:=by have:=hg4.size;have e:(w1.alloc o).drew.heap.size=w1.heap.size+1:=by { show(w1.alloc o).heap.size=_;simp };omega
 have hkm:=hk.km.P7 hb (λk h1=>hnew k h1) hs3;refine⟨_,cap4,2, [⟨157,6,y.gr,st,0⟩,⟨173,3,2,y.ca,z⟩],f,R,R,uq gU (λg hg'=>by
  have:g4=g:=qbg
  rw [<-this];exact hge4),hkm,?_,λa ha=>?_,qd,qd,λh0=>qd⟩
 .have h1:=hk.kf qf;exact⟨hb.os.trans h1.os,hb.tape.trans h1.tape,hb.output.trans h1.output,XAL hsz hs3,λ_ _ _ h=>h,λj hj hn h0=>(hb.block j hj).trans (h1.blk j hj hn h0)⟩
 .simp at ha;rcases ha with rfl|rfl
  .exact Bf _ _ _
  .exact .inr (.inl ⟨R,by show(0:Int)<=(y.ca:Int);omega,by show(y.ca:Int)<_;omega⟩)
theorem JX(h:KM A w M){n:Nat}(hy:M.hs[n]? =some y):Z 77 #[(A.kb,0),I n] w (A6 A M n y w):=by
 have hn:=lt_of_some hy;obtain⟨g,cap,gS,hcap,hrd⟩:=h.hav hn;obtain⟨hlt,hfz,h0,h1,h2,h3,h4⟩:=hrd n y hy;have k28:=h.rd.k28;rw [gS] at k28;obtain⟨L,hL⟩:=Xq M.hs.length;rw [hL] at k28 hcap hn;have a1:¬(n:Int)<0:=qd
 have a2:¬L<=n:=qd;have hcy:=h.ok.hc y (XAi hy);obtain⟨x,hx⟩:=lC (M:=M) (n:=y.ca) hcy;have HC:=XAA h;have HY:=XAA hy;have HX:=XAA hx;have HV:=XAA gS;have HL:=XAA hL;have sY:=XAA hcy;have hz:=hfz (n*5+4);clear h hy hrd hx gS hL hcy hfz;by_cases hg:0<y.gr
 .go_enter func77,ntmps77;go_upto_region 3 with fail
  refine bg (λW hW=>?_);have hk:=HC.out.hcell (j:=4) (z:=gk y) (v:=.bool false) HV.out HY.out qf R rfl;rw [<-hW] at hk;obtain⟨gc,ni,hcv,CG,hci,hgl⟩:=hk.km.gK HX.out;have k27:W.cell? (A.kb,27)=some (.slice (gc,0) M.cs.length ni):=(hk.km.rd.k27).trans (XAK some hcv);obtain⟨xlt,uF,-,-,-,-,-,-,-,x9,-⟩:=hk.km.cw HX.out;have a8:=hk.km.rd.lt;obtain⟨gO,-,r0,r1,r2,r3,-⟩:=hk.km.hat (n:=n) (y:=gk y) HV.out qdk;have q0:W.cell? (g,n*5)=some (nV y.ca):=r0;have q1:W.cell? (g,n*5+1)=I y.sl:=r1;have q2:W.cell? (g,n*5+2)=I y.ob:=r2;have q3:W.cell? (g,n*5+3)=I y.gr:=r3;have b1:¬(y.ca:Int)<0:=qd
  have b2:¬M.cs.length<=y.ca:=by have:=sY.out;omega
  have HK:=XAA hk;clear r0 r1 r2 r3 hk hW hcv h0 h1 h2 h3 h4 k28;(refine ba (W.heap.size) (λhxc aA hxh hxn=>?_);(repeat (first|go_big_quiet_step (fail)|quiet_step (fail)));refine XAG ?_;clear hxc aA hxh hxn;intro w1 hb1 hz1 hc1 hf1);clear hc1 hf1;have HS:Hid ((M.hs.set n (gk y))[n]? =some (gk y)):=XAA (by rw [XDA qke]);have aS:=XAA (HK.out.eZ hb1);have k7:=aS.out.km.rd.k7;have Dk:=aS.out.km.rd.lt;obtain⟨Cx,-,r0,r1,r2,r3,-⟩:=aS.out.km.hat (n:=n) HV.out HS.out;have q0':w1.cell? (g,n*5)=some (nV y.ca):=r0;have q1':w1.cell? (g,n*5+1)=I y.sl:=r1;have q2':w1.cell? (g,n*5+2)=I y.ob:=r2;have q3':w1.cell? (g,n*5+3)=I y.gr:=r3;clear q0 q1 q2 q3 r0 r1 r2 r3 hb1 hz1 k27 hci x9;obtain⟨wa,fu⟩:∃x:World,x=w1:=⟨_,rfl⟩;subst fu;have xA:=XAA (aS.out.km.drew);go_wp2;go_region_held3 (λw'=>w'.cell? (g,n*5)=some (nV y.ca)/\w'.cell? (g,n*5+1)=I y.sl/\w'.cell? (g,n*5+2)=I y.ob/\w'.cell? (A.kb,7)=some (.pointer (A.ob,0))) (exact⟨qm,qm,qm,qm⟩)
   (first|(go_at_call 115;refine(XP xA.out _ _).mono ?_;rintro e w5 ⟨r,er,rfl,h5⟩;have bm:=XAA h5;obtain⟨-,-,r0,r1,r2,-⟩:=h5.km.hat (n:=n) HV.out HS.out;have x0:w5.cell? (g,n*5)=some (nV y.ca):=r0;have x1:w5.cell? (g,n*5+1)=I y.sl:=r1;have x2:w5.cell? (g,n*5+2)=I y.ob:=r2;have x7:=h5.km.rd.k7;clear h5 r0 r1 r2))
  have cG:Hid (KG [9,5] A M { M with hs:=M.hs.set n (gk y) } w w5):=XAA ((aS.out.more ql).trans ((bm.out.from_ (XAC _ _).drew).more ql));have adz:g<w5.heap.size:=by have:=bm.out.md.size;simp only [World.size_drew] at this;omega
  have x3:w5.cell? (g,n*5+3)=I y.gr:=(bm.out.km.hat (n:=n) HV.out HS.out).h3;clear x0 x1 x2 x7 q0' q1' q2' q3' k7;go_wp2;(refine bN 8 (w5.heap.size) ?_;intro hxc aA hxh hxn;simp only [List.take,List.drop];(repeat (first|go_big_quiet_step (fail)|quiet_step (fail)));refine XAG ?_;clear hxc aA hxh hxn;intro w1 hb1 hz1 hc1 hf1);clear hc1 hf1;have dd:=XAA (cG.out.eZ hb1);clear hb1 x3;obtain⟨wd,hwd⟩:∃x:World,x=w1:=⟨_,R⟩;subst hwd;go_wp2_with (first|(go_at_call 100;refine(uc dd.out.km _ _).mono ?_;rintro e w6 ⟨rfl,f6,h6⟩;have jx:Hid (KG [9,5,1] A M { M with hs:=M.hs.set n (gk y),fly:=f6 } w w6):=XAA ((dd.out.more ql).trans (h6.more ql));obtain⟨adA,-,r0,r1,r2,r3,-⟩:=h6.km.hat (n:=n) HV.out HS.out;have x3:w6.cell? (g,n*5+3)=I y.gr:=r3;clear h6 r0 r1 r2 r3)|(at_builtin;refine iW gg rfl qf fV qu _ _ qu _ 0 [] qu (Own.nil M.cl 0 _ _ _).1 (some ⟨w6.heap.size,0,none⟩) 1 1 [aF ⟨157,6,y.gr,x.ly.st,0⟩] qu (Reads.act w6 _ ⟨157,6,y.gr,x.ly.st,0⟩) qk qd qf qd ?_;intro g3 cap3 w7 ho3 hg3 hq3;have hb7:Below w6 w6 w7:=rF ((XAC _ w6).alloc (XAB _) _) hg3 ql (λr hr=>by cases hr);have oy:=XAA hb7;have rm:=XAA ho3;have NT:=XAA hq3;clear ho3 hg3 hb7 hq3 x3));have rj:=XAA (jx.out.eZ oy.out);obtain⟨adB,-,r0,r1,r2,-⟩:=rj.out.km.hat (n:=n) HV.out HS.out;have q0':w7.cell? (g,n*5)=some (nV y.ca):=r0;have q1':w7.cell? (g,n*5+1)=I y.sl:=r1;have q2':w7.cell? (g,n*5+2)=I y.ob:=r2;have hge:w.heap.size<=g3:=by
   have h1:=jx.out.md.size;rcases NT.out with e|e
   .cases e
   .rw [e];simp;omega
  have Nf:=XAA hge;have HR2:=XAA ((Reads.act w7 20 ⟨173,3,2,y.ca,IntKind.i64.wrap (IntKind.i64.wrap (16*y.sl)+y.ob)⟩).drew);have NF:=XAA ((own_below rm.out ((XAC _ w7).alloc (XAB _) (.cells #[aF ⟨173,3,2,y.ca,IntKind.i64.wrap (IntKind.i64.wrap (16*y.sl)+y.ob)⟩] 20))).drew);have p0:=fs q0';have p1:=fs q1';have p2:=fs q2';clear hge r0 r1 r2;go_region_law (refine iS gg R qf fV R _ _ qu _ (0+1) ([]++ [aF ⟨157,6,y.gr,x.ly.st,0⟩]) qu NF.out (some ⟨w7.heap.size,0,none⟩) 1 1 [aF ⟨173,3,2,y.ca,IntKind.i64.wrap (IntKind.i64.wrap (16*y.sl)+y.ob)⟩] qu HR2.out qk qd qf qd ?_;intro g4 cap4 w8 gU hg4 hq4);all_goals
   go_wp2;go_ret;exact XJ HC.out.new rj.out sY.out hg Nf.out hg4 hq4 gU
 .go_enter func77,ntmps77;go_upto_region 3 with fail
  refine bg (λW hW=>?_);have hk:=HC.out.hcell (j:=4) (z:=gk y) (v:=.bool false) HV.out HY.out qf R rfl;rw [<-hW] at hk;obtain⟨gc,ni,hcv,CG,hci,hgl⟩:=hk.km.gK HX.out;have k27:W.cell? (A.kb,27)=some (.slice (gc,0) M.cs.length ni):=(hk.km.rd.k27).trans (XAK some hcv);obtain⟨xlt,uF,-,-,-,-,-,-,-,x9,-⟩:=hk.km.cw HX.out;have a8:=hk.km.rd.lt;obtain⟨gO,-,r0,r1,r2,r3,-⟩:=hk.km.hat (n:=n) (y:=gk y) HV.out qdk;have q0:W.cell? (g,n*5)=some (nV y.ca):=r0;have q1:W.cell? (g,n*5+1)=I y.sl:=r1;have q2:W.cell? (g,n*5+2)=I y.ob:=r2;have q3:W.cell? (g,n*5+3)=I y.gr:=r3;have b1:¬(y.ca:Int)<0:=qd
  have b2:¬M.cs.length<=y.ca:=by have:=sY.out;omega
  have HK:=XAA hk;clear r0 r1 r2 r3 hk hW hcv h0 h1 h2 h3 h4 k28;(refine ba (W.heap.size) (λhxc aA hxh hxn=>?_);(repeat (first|go_big_quiet_step (fail)|quiet_step (fail)));refine XAG ?_;clear hxc aA hxh hxn;intro w1 hb1 hz1 hc1 hf1);have e0:¬0<y.gr:=hg;clear hc1 hf1;have aS:=XAA (HK.out.eZ hb1);have q0':w1.cell? (g,n*5)=some (nV y.ca):=(hb1.cell (p:=⟨g,n*5,none⟩) gO).trans q0;have q1':w1.cell? (g,n*5+1)=I y.sl:=(hb1.cell (p:=⟨g,n*5+1,none⟩) gO).trans q1;have q2':w1.cell? (g,n*5+2)=I y.ob:=(hb1.cell (p:=⟨g,n*5+2,none⟩) gO).trans q2;have q3':w1.cell? (g,n*5+3)=I y.gr:=(hb1.cell (p:=⟨g,n*5+3,none⟩) gO).trans q3;have Cx:g<w1.heap.size:=qd
  clear q0 q1 q2 q3 hb1 k27 hci x9;go_wp2;have HR2:=XAA ((Reads.act w1 20 ⟨173,3,2,y.ca,IntKind.i64.wrap (IntKind.i64.wrap (16*y.sl)+y.ob)⟩).drew);have p0:=fs q0';have p1:=fs q1';have p2:=fs q2';go_region_law (refine iS gg R qf fV R _ _ qu _ 0 [] qu (Own.nil M.cl 0 _ _ _).1 (some ⟨w1.heap.size,0,none⟩) 1 1 [aF ⟨173,3,2,y.ca,IntKind.i64.wrap (IntKind.i64.wrap (16*y.sl)+y.ob)⟩] qu HR2.out qk qd qf qd ?_;intro g3 cap3 w3 ho3 hg3 hq3);all_goals
   go_wp2;go_ret;exact XI aS.out sY.out hg3 hq3 ho3
end
structure Sm(M M':KS):Prop where
 fr:M'.fr=M.fr
 hs:M'.hs=M.hs
 ds:M'.ds=M.ds
 cs:M'.cs.length=M.cs.length
 tn:M'.tn=M.tn
 G:M'.G=M.G
 s:M.s<=M'.s
section
variable{A:KA}{M M1 M2:KS}{w w' w2:World}{i k:Nat}{x y:Cc}
theorem Sm.refl(M:KS):Sm M M:=⟨R,R,R,R,R,R,XAB _⟩
theorem Sm.trans(h:Sm M M1)(h':Sm M1 M2):Sm M M2:=⟨h'.fr.trans h.fr,h'.hs.trans h.hs,h'.ds.trans h.ds,h'.cs.trans h.cs,h'.tn.trans h.tn,h'.G.trans h.G,XAL h.s h'.s⟩
def Oo(A:KA)(M:KS)(k:Nat)(w:World)(e:Ending)(w':World):Prop:=
 e=.returned (.tuple #[])/\∃M',KM A w' M'/\KF [] M.cl M'.cl w w'/\Sm M M'/\M'.s=M.s/\M'.gr=sv M.gr k/\(polled M.gr k= []->M'.T=M.T/\M'.cs=M.cs)
theorem Dq(h:KM A w M)(hk:k<A.C):Z 64 #[(A.kb,0),I k] w (Oo A M k w):=by
 have k26:=h.rd.k26;have HC:=XAA h;have hgi:=h.ok.gi;have hpi:∀p∈polled M.gr k,0<=p/\p<=9007199254740991/\p % 16<M.cs.length:=λp hp=>by obtain⟨x,hx,rfl⟩:=ZZ hp;exact hgi k x hx
 obtain⟨P,hP⟩:=Xq (polled M.gr k);rw [hP] at hpi;obtain⟨m,hm⟩:=Xq P.length;have hbig:m<=1000000:=by
  obtain⟨-,hI,-⟩:=h.gr;have hl:=hI.l k;rw [<-hm,<-hP];unfold polled mJ;rw [XAY,XBV];have:(M.gr.L k).length<=256:=by
   rcases XAc 256 (M.gr.L k).length with h1|h1
   .unfold bY at hl;rw [XAR h1] at hl;cases hl
   .exact h1
  omega
 have NP:=XAA hpi;have HP:=XAA hP;have HM:=XAA hm;clear h hgi hpi hP hm;go_enter func64,ntmps64;go_wp2_with (go_at_call 90;refine(Yi HC.out hk).mono ?_;rintro e w1 ⟨B,c,c1,rfl,ho,h7,hkg⟩;rw [HP.out,HM.out] at ho ⊢;have HO:=XAA ho;have H7:=XAA h7;have aS:=XAA hkg;clear ho h7 hkg k26);go_loopw [7,19] (λ_ z wr=>∃(i:Nat)(M':KS),z=I i/\i<=m/\KM A wr M'/\KF [] M.cl M'.cl w wr/\Md c1 [62,63,64,100,110,120,130,140,150,160,170] w1 wr/\(∀k,k<w1.heap.size->M'.cl k=c1 k)/\Sm M M'/\M'.s=M.s/\M'.gr=sv M.gr k/\(i=0->M'.T=M.T/\M'.cs=M.cs)) (λ_ z _=>m-(intOf z).toNat)
 case atStart=>exact⟨0,_,R,XAJ _,aS.out.km,aS.out.kf qf,Md.refl _ _ _,λ_ _=>rfl,⟨R,R,R,R,R,R,XAB _⟩,R,R,λ_=>⟨R,R⟩⟩
 case round=>
  obtain⟨i,M',rfl,him,hkm,a_,hmd,hcl,hsm,hs,hgr,h0⟩:=hrel;by_cases hi:i<m
  .have hB:=sr HO.out;obtain⟨p,hp⟩:∃p,P[i]? =some p:=⟨_,XAO qdf⟩;obtain⟨p0,p1,p2⟩:=NP.out p (XAi hp);have hrow:Row wr B (fw P):=Row.md (Row.gj HO.out) hmd λhpos g off e=>by
    have hg:=Row.gj HO.out hpos;obtain⟨g',off',e',hl,-⟩:=hg;rw [e] at e';injection e' with e';injection e' with a b _;rw [H7.out g (hB g off e).1 qd];decide
   obtain⟨g0,off,rfl,hg0,hcx⟩:=hrow.at_ (k:=i) (by simp [HM.out];exact hi);have hoff:=(hB g0 off R).2;subst hoff;have ex:(fw P)[i]'(by simp [HM.out];exact hi)=I p:=by
    have:(fw P)[i]? =I p:=by unfold fw;rw [XAa,hp];rfl
    exact XAl ((XAO _).symm.trans this)
   rw [ex,XAV] at hcx;have b1:(i:Int)<(m:Int):=qd
   have hcs:M'.cs.length<=8:=hkm.ok.cs;rw [<-hsm.cs] at p2;obtain⟨j,hj⟩:∃j:Nat,p % 16=j:=⟨(p % 16).toNat,qd⟩;obtain⟨x,hx⟩:=lC (M:=M') (n:=j) qd;have k25:=hkm.rd.k25;have fG:=XAA hkm;have HR:=XAA (And.intro a_ (And.intro hmd (And.intro hcl (And.intro hsm (And.intro hs hgr)))));have HX:=XAA hx;have HJ:=XAA hj;clear hkm a_ hmd hcl hsm hs hgr h0 hrow ex hp hx hB hj p2;go_wp2_with (go_at_call 91;refine(Dm fG.out hk _ (gY qd qd)).mono ?_;rintro e w4 ⟨r,c4,T4,L4,F4,rfl,h4⟩;have H4:=XAA h4;obtain⟨gc,cap,hcv,hcap,hci,hgl⟩:=h4.km.gK HX.out;obtain⟨xlt,uF,-,-,-,-,-,x5,-⟩:=h4.km.cw HX.out;have k27:w4.cell? (A.kb,27)=some (.slice (gc,0) M'.cs.length cap):=(h4.km.rd.k27).trans (XAK some hcv);have hj:=HJ.out;have a1:¬(j:Int)<0:=qd;have a2:¬M'.cs.length<=j:=XBU.2 (lt_of_some HX.out);have a3:M'.cs.length<=cap:=hcap;clear h4 k25 hcv hcap);go_roundw
   case rel=>
    obtain⟨a_,hmd,hcl,hsm,hs,hgr⟩:=HR.out;have h5:=H4.out.km.KV (i:=j) (x:=x) HX.out (wrap64 (x.waits-1));have Wb:j<8:=by have:=lt_of_some HX.out;omega
    refine⟨i+1,_,qbf,hi,h5.km,(a_.then_ (H4.out.kf qf)).then_ (h5.kf qj),(hmd.trans hcl (H4.out.md.more ql)).trans (λk hk=>?_) (h5.md.more λq hq=>?_),λk hk=>?_,⟨hsm.fr,hsm.hs,hsm.ds,?_,hsm.tn,hsm.G,hsm.s⟩,hs,hgr,λh=>absurd h qd⟩
    .exact(H4.out.cl k (XAH hk hmd.size)).trans (hcl k hk)
    .simp at hq;subst hq;simp;omega
    .exact((h5.cl k (XAH hk (XAL hmd.size H4.out.md.size))).trans (H4.out.cl k (XAH hk hmd.size))).trans (hcl k hk)
    .show(M'.cs.set j _).length=_;rw [XAk];exact hsm.cs
   case measure=>simp [intOf];omega
  .obtain rfl:i=m:=by omega
   go_wp2;go_end0;exact⟨R,M',hkm,a_,hsm,hs,hgr,λhe=>h0 (by rw [<-HM.out,<-HP.out,he];rfl)⟩
end
structure Ax(M M':KS)(k:Nat):Prop where
 fr:∀j,j≠k->M'.fr j=M.fr j
 nx:(M'.fr k).next=(M.fr k).next
 bu:(M'.fr k).busy=(M.fr k).busy
 ds:M'.ds=M.ds
 s:M.s<=M'.s
theorem Ax.refl(M:KS)(k:Nat):Ax M M k:=⟨λ_ _=>rfl,R,R,R,XAB _⟩
theorem Ax.trans{M M1 M2:KS}{k:Nat}(h:Ax M M1 k)(h':Ax M1 M2 k):Ax M M2 k:=⟨λj hj=>(h'.fr j hj).trans (h.fr j hj),h'.nx.trans h.nx,h'.bu.trans h.bu,h'.ds.trans h.ds,XAL h.s h'.s⟩
section
variable{A:KA}{M M1 M2:KS}{w w' w2:World}{i k:Nat}{x:Cc}{y:Hn}
theorem Bd{nc nh tn:Nat}{G:Nat->Gp}{a b c:Int}(h:0<=a/\a<=16):dn nc nh tn G ⟨157,7,a,b,c⟩:=.inl ⟨R,λh=>qer,λh=>qer,λ_=>h⟩
abbrev bG(a b c d:Int):Array Value:=#[I a,I b,I c,I d]
def FE(A:KA)(M:KS)(k:Nat)(w:World)(e:Ending)(w':World):Prop:=
 e=.returned (.tuple #[])/\∃M',KM A w' M'/\KF [] M.cl M'.cl w w'/\Ax M M' k/\M'.s<=M.s+1
theorem u7(h:KM A w M){p:Nat}{K a b c:Int}(hb:ak w p 157 (bG K a b c)):w.cell? (A.kb,4)=some (.pointer (A.tb,0))/\w.cell? (A.kb,6)=some (.pointer (A.d_,0))/\w.cell? (p,1)=I a/\w.cell? (p,2)=I b:=⟨h.rd.k4,h.rd.k6,hb.cell 1,hb.cell 2⟩
theorem Yk(h:KM A w M)(hs:M.s<=30000)(hk:k<A.C)(K a b c:Int):Z 105 #[(A.kb,0),I k,.pointer (A.fb,k*12),.agg (bG K a b c)] w (FE A M k w):=by
 have hnew:=h.new;have hz:M.cl w.heap.size=0:=hnew _ (XAB _);have HC:=XAA h;have H1:=XAA (h.alloc (.cells (bG K a b c) 157));have hbx:=ak.new w 157 (bG K a b c);have xlt:=hbx.lt;clear h;go_enter func105,ntmps105;go_wp2;obtain⟨w0,hw0⟩:=Xq (w.alloc (.cells (bG K a b c) 157));have HW0:Hid (Below w w w0):=XAA qfq;rw [hw0] at H1 hbx xlt ⊢;clear hw0;have bP:=XAA (KG.refl [1,3,4] H1.out);have HX0:=XAA hbx;obtain⟨El,En,Ep,Er⟩:=u7 (a:=a) (b:=b) (K:=K) (c:=c) bP.out.km (HX0.out);have HD1:=XAA (bP.out.km.drew);go_wp2;go_region_held3 (λw'=>w'.cell? (A.kb,4)=some (.pointer (A.tb,0))/\w'.cell? (A.kb,6)=some (.pointer (A.d_,0))/\w'.cell? (w.heap.size,1)=I a/\w'.cell? (w.heap.size,2)=I b) (exact⟨qm,qm,qm,qm⟩) (first|(go_at_call 111;refine(Ab _ HD1.out.tr a).mono ?_;rintro e w1 ⟨rfl,hb1⟩;have aS:=XAA (bP.out.trans (KG.from_ (KG.of_below [1,3,4] HD1.out hb1) (XAC _ _).drew));have oG:Hid (ak w1 w.heap.size 157 (bG K a b c)):=XAA (aS.out.md.blk hbx qjq);obtain⟨w_,xb,xc,xd⟩:=u7 (a:=a) (b:=b) (K:=K) (c:=c) aS.out.km (oG.out)));clear El En Ep Er hb1;have HD2:=XAA (aS.out.km.drew);go_wp2;go_region_held3 (λw'=>w'.cell? (A.kb,4)=some (.pointer (A.tb,0))/\w'.cell? (A.kb,6)=some (.pointer (A.d_,0))/\w'.cell? (w.heap.size,1)=I a/\w'.cell? (w.heap.size,2)=I b) (exact⟨qm,qm,qm,qm⟩) (first|(go_at_call 100;refine(uc HD2.out a _).mono ?_;rintro e w2 ⟨rfl,f2,h2⟩;have aW:=XAA (aS.out.trans (KG.from_ (h2.more ql) (XAC _ _).drew));have oH:Hid (ak w2 w.heap.size 157 (bG K a b c)):=XAA (aW.out.md.blk hbx qjq);obtain⟨An,Mj,Mn,Mo⟩:=u7 (a:=a) (b:=b) (K:=K) (c:=c) aW.out.km (oH.out)));clear w_ xb xc xd h2;generalize IntKind.i64.wrap (-b)=nb;have HD3:=XAA (aW.out.km.drew);go_wp2;go_region_held3 (λw'=>w'.cell? (A.kb,4)=some (.pointer (A.tb,0))/\w'.cell? (A.kb,6)=some (.pointer (A.d_,0))/\w'.cell? (w.heap.size,1)=I a/\w'.cell? (w.heap.size,2)=I b) (exact⟨qm,qm,qm,qm⟩) (first|(go_at_call 113;refine(Dp HD3.out a b).mono ?_;rintro e w3 ⟨rfl,h3⟩;have dS:=XAA (aW.out.trans (KG.from_ (h3.more ql) (XAC _ _).drew));have xK:Hid (ak w3 w.heap.size 157 (bG K a b c)):=XAA (dS.out.md.blk hbx qjq);obtain⟨Em,Eo,ac5,ac8⟩:=u7 (a:=a) (b:=b) (K:=K) (c:=c) dS.out.km (xK.out)));clear An Mj Mn Mo h3;have HD4:=XAA (dS.out.km.drew);go_wp2;go_region_held3 (λw'=>w'.cell? (A.kb,4)=some (.pointer (A.tb,0))/\w'.cell? (A.kb,6)=some (.pointer (A.d_,0))/\w'.cell? (w.heap.size,1)=I a/\w'.cell? (w.heap.size,2)=I b) (exact⟨qm,qm,qm,qm⟩) (first|(go_at_call 144;refine(Yj HD4.out hk _ _).mono ?_;rintro e w4 ⟨u,v,er,rfl,h4⟩;have br:=XAA (dS.out.trans (KG.from_ (h4.more ql) (XAC _ _).drew));have mg:Hid (ak w4 w.heap.size 157 (bG K a b c)):=XAA (br.out.md.blk hbx qjq);obtain⟨adV,Mk,adZ,ad3⟩:=u7 (a:=a) (b:=b) (K:=K) (c:=c) br.out.km (mg.out)));clear Em Eo ac5 ac8 h4;rcases (by cases(er==0)<;>simp:(er==0)=true\/(er==0)=false) with he|he
 .have HQ:=br;by_cases ho:v<=0
  .skip
   go_wp2;refine Xe ?_;exact⟨R,_,HQ.out.km,(KF.below [] _ HW0.out).trans (HQ.out.kf qf),⟨λ_ _=>rfl,R,R,R,XAB _⟩,XAU _⟩
  .skip
   go_wp2_with (first|(go_at_call 100;refine(uc HQ.out.km _ _).mono ?_;rintro e w6 ⟨rfl,f6,h6⟩;have cG:=XAA (HQ.out.trans (h6.more ql));have y6:=cG.out.km.rd.k4;clear h6)|(go_at_call 98;refine(uB _ cG.out.km.tr (u)).mono ?_;rintro e w7 ⟨v7,rfl,eU,hb7⟩;obtain⟨P,hP⟩:∃P,c_ M.G (cf M.tn (u))=P:=(⟨_,R⟩);have HP:=XAA hP;obtain⟨m,hm⟩:∃m,P.length=m:=(⟨_,R⟩);have HM:=XAA hm;replace eU:w7.ownsRow w6.heap.size 3 1 v7 m (P.map nV):=(by rw [<-HM.out,<-HP.out];exact eU);obtain⟨B7,c7,rfl,ph⟩:=Row.slice eU;have uW:=XAA ph;have rm:=XAA eU;have oy:=XAA hb7;have dd:=XAA (cG.out.eZ hb7);clear ph eU hb7 hP hm y6));have Jd:m<=16:=by have:=XAL (sx HC.out.tr.ok (u)) HC.out.tr.ok.n2;rw [HP.out,HM.out] at this;exact this
   have hin:∀x∈P,1<=x/\x<=16:=λx hx=>by have:=wP HC.out.tr.ok (u) x (by rw [HP.out];exact hx);have:=HC.out.tr.ok.n2;omega
   have td:=XAA hin;clear hin;go_loopw [12,14,75] (λv12 _ z wr=>∃(i:Nat)(l:List Ac),z=I i/\i<=m/\l.length=i/\wr.ownsRow w7.heap.size 20 1 v12 i (l.map aF)/\(∀q∈l,dn M.cs.length M.hs.length M.tn M.G q)/\Below w7 w7 wr) (λ_ _ z _=>m-(intOf z).toNat)
   case atStart=>exact⟨0, [],R,XAJ _,R,⟨R,.inl ⟨R,R⟩⟩,(λ_ h=>qck),XAC _ _⟩
   case round=>
    obtain⟨i,l,rfl,him,hl,hown,hok,hb⟩:=hrel;obtain⟨Aq,c12,rfl,vY⟩:=Row.slice hown;have HL:=XAA hl;have HOW:=XAA hown;have lp:=XAA hok;have HB:=XAA hb;have AO:=XAA vY;clear hl hown hok vY;by_cases hi:i<m
    .obtain⟨x,hx⟩:∃x,P[i]? =some x:=⟨_,XAO qdf⟩;have hx16:=td.out x (XAi hx);obtain⟨g0,off,rfl,hg0,hcx⟩:=(uW.out.below hb).at_ (k:=i) qeh;have hoff:=(sr rm.out g0 off R).2;subst hoff;have ex:(P.map nV)[i]' qeh=nV x:=by
      rw [XCj];congr 2;exact XAl ((XAO qdf).symm.trans hx)
     rw [ex,XAV] at hcx;have b1:(i:Int)<(m:Int):=qd
     clear hx ex hb;go_wp2_with (at_builtin;refine iW gg R qf fV qu _ _ qu _ i (l.map aF) qu (own_base (own_below HOW.out ((XAC _ wr).alloc (XAB _) _))).1 (some ⟨wr.heap.size,0,none⟩) 1 1 [aF ⟨157,7,x,v,0⟩] qu (Reads.act wr _ ⟨157,7,x,v,0⟩) qk qd qf qd ?_;intro g3 cap3 w9 ho3 hg3 hq3);go_roundw
     case rel=>
      have hbs:=(own_base HOW.out).2;have hs7:=HB.out.size;refine⟨i+1,l++ [⟨157,7,x,v,0⟩],qbf,hi,by rw [XAZ,HL.out];rfl,?_,λq hq=>?_,?_⟩
      .rw [XBB];refine uq ho3 λg hg=>?_;have e:g3=g:=by simpa [Value.ownBlock] using hg
       rcases hq3 with h1|h1
       .rw [<-e];exact hbs g3 h1.symm
       .rw [<-e,h1];simp;omega
      .rcases XAe.1 hq with h1|h1
       .exact lp.out q h1
       .simp at h1;subst h1;exact Bd qd
      .exact rF (HB.out.alloc qd _) hg3 qj λr hr=>hbs r hr
     case measure=>simp [intOf];omega
    .obtain rfl:i=m:=by omega
     have hkm:=dd.out.km.below hb;have fG:=XAA hkm;clear hkm hb;go_wp2_with (go_at_call 76;refine(wk fG.out hs hk l Aq c12 i HL.out AO.out lp.out qd).mono ?_;rintro e w9 ⟨rfl,c9,ye,h9,f9⟩;have H9:=XAA h9;have F9:=XAA f9;clear h9 f9);refine Xe ?_;exact⟨R,_,H9.out,(((KF.below [] _ HW0.out).trans (dd.out.kf qf)).trans (KF.below [] _ HB.out)).trans F9.out,⟨λj hj=>cP hj,qy,qx,R,XAU _⟩,XAB _⟩
 .obtain⟨hr,kP⟩:=Xq (kO M.tn M.G (c_ M.G (cf M.tn a)));rw [kP];clear kP;by_cases ho:b<=0
  .have acX:=mg.out.lt;go_wp2;(refine ba (w4.heap.size) (λhxc aA hxh hxn=>?_);(repeat (first|go_big_quiet_step (fail)|quiet_step (fail)));refine XAG ?_;clear hxc aA hxh hxn;intro w1 hb1 hz1 hc1 hf1);clear hc1 hf1;have HQ:=XAA (br.out.eZ hb1);go_wp2;refine Xe ?_;exact⟨rfl,_,HQ.out.km,(KF.below [] _ HW0.out).trans (HQ.out.kf qf),⟨λ_ _=>rfl,R,R,R,XAB _⟩,XAU _⟩
  .have acX:=mg.out.lt;go_wp2;(refine ba (w4.heap.size) (λhxc aA hxh hxn=>?_);(repeat (first|go_big_quiet_step (fail)|quiet_step (fail)));refine XAG ?_;clear hxc aA hxh hxn;intro w1 hb1 hz1 hc1 hf1);clear hc1 hf1;have HQ:=XAA (br.out.eZ hb1);go_wp2_with (first|(go_at_call 100;refine(uc HQ.out.km _ _).mono ?_;rintro e w6 ⟨rfl,f6,h6⟩;have cG:=XAA (HQ.out.trans (h6.more ql));have y6:=cG.out.km.rd.k4;clear h6)|(go_at_call 98;refine(uB _ cG.out.km.tr ((hr:Int))).mono ?_;rintro e w7 ⟨v7,rfl,eU,hb7⟩;obtain⟨P,hP⟩:∃P,c_ M.G (cf M.tn ((hr:Int)))=P:=(⟨_,R⟩);have HP:=XAA hP;obtain⟨m,hm⟩:∃m,P.length=m:=(⟨_,R⟩);have HM:=XAA hm;replace eU:w7.ownsRow w6.heap.size 3 1 v7 m (P.map nV):=(by rw [<-HM.out,<-HP.out];exact eU);obtain⟨B7,c7,rfl,ph⟩:=Row.slice eU;have uW:=XAA ph;have rm:=XAA eU;have oy:=XAA hb7;have dd:=XAA (cG.out.eZ hb7);clear ph eU hb7 hP hm y6));have Jd:m<=16:=by have:=XAL (sx HC.out.tr.ok ((hr:Int))) HC.out.tr.ok.n2;rw [HP.out,HM.out] at this;exact this
   have hin:∀x∈P,1<=x/\x<=16:=λx hx=>by have:=wP HC.out.tr.ok ((hr:Int)) x (by rw [HP.out];exact hx);have:=HC.out.tr.ok.n2;omega
   have td:=XAA hin;clear hin;go_loopw [12,14,75] (λv12 _ z wr=>∃(i:Nat)(l:List Ac),z=I i/\i<=m/\l.length=i/\wr.ownsRow w7.heap.size 20 1 v12 i (l.map aF)/\(∀q∈l,dn M.cs.length M.hs.length M.tn M.G q)/\Below w7 w7 wr) (λ_ _ z _=>m-(intOf z).toNat)
   case atStart=>exact⟨0, [],R,XAJ _,R,⟨R,.inl ⟨R,R⟩⟩,(λ_ h=>qck),XAC _ _⟩
   case round=>
    obtain⟨i,l,rfl,him,hl,hown,hok,hb⟩:=hrel;obtain⟨Aq,c12,rfl,vY⟩:=Row.slice hown;have HL:=XAA hl;have HOW:=XAA hown;have lp:=XAA hok;have HB:=XAA hb;have AO:=XAA vY;clear hl hown hok vY;by_cases hi:i<m
    .obtain⟨x,hx⟩:∃x,P[i]? =some x:=⟨_,XAO qdf⟩;have hx16:=td.out x (XAi hx);obtain⟨g0,off,rfl,hg0,hcx⟩:=(uW.out.below hb).at_ (k:=i) qeh;have hoff:=(sr rm.out g0 off R).2;subst hoff;have ex:(P.map nV)[i]' qeh=nV x:=by
      rw [XCj];congr 2;exact XAl ((XAO qdf).symm.trans hx)
     rw [ex,XAV] at hcx;have b1:(i:Int)<(m:Int):=qd
     clear hx ex hb;go_wp2_with (at_builtin;refine iW gg R qf fV qu _ _ qu _ i (l.map aF) qu (own_base (own_below HOW.out ((XAC _ wr).alloc (XAB _) _))).1 (some ⟨wr.heap.size,0,none⟩) 1 1 [aF ⟨157,7,x,b,0⟩] qu (Reads.act wr _ ⟨157,7,x,b,0⟩) qk qd qf qd ?_;intro g3 cap3 w9 ho3 hg3 hq3);go_roundw
     case rel=>
      have hbs:=(own_base HOW.out).2;have hs7:=HB.out.size;refine⟨i+1,l++ [⟨157,7,x,b,0⟩],qbf,hi,by rw [XAZ,HL.out];rfl,?_,λq hq=>?_,?_⟩
      .rw [XBB];refine uq ho3 λg hg=>?_;have e:g3=g:=by simpa [Value.ownBlock] using hg
       rcases hq3 with h1|h1
       .rw [<-e];exact hbs g3 h1.symm
       .rw [<-e,h1];simp;omega
      .rcases XAe.1 hq with h1|h1
       .exact lp.out q h1
       .simp at h1;subst h1;exact Bd qd
      .exact rF (HB.out.alloc qd _) hg3 qj λr hr=>hbs r hr
     case measure=>simp [intOf];omega
    .obtain rfl:i=m:=by omega
     have hkm:=dd.out.km.below hb;have fG:=XAA hkm;clear hkm hb;go_wp2_with (go_at_call 76;refine(wk fG.out hs hk l Aq c12 i HL.out AO.out lp.out qd).mono ?_;rintro e w9 ⟨rfl,c9,ye,h9,f9⟩;have H9:=XAA h9;have F9:=XAA f9;clear h9 f9);refine Xe ?_;exact⟨R,_,H9.out,(((KF.below [] _ HW0.out).trans (dd.out.kf qf)).trans (KF.below [] _ HB.out)).trans F9.out,⟨λj hj=>cP hj,qy,qx,R,XAU _⟩,XAB _⟩
end
section
open Go.Shelf
attribute [local go_sem] Oper.semAt_some
theorem sP{ops:Array Oper}{rest:List Oper}{o:Oper}{a:Act}{Q:Exit->Act->World->Prop}{w:World}(hgd:o.guard=none)(x:Operand)(ho:o.op=.slice 155 x (some (.const (I 1))) none none)(g off m c:Nat)(hx:a.eval x=.slice (g,off) (m+1) c)(hc:m+1<=c)
 (h:∀off',(0<m->off'=off+1)->wpList prog ops Q rest (a.put o.dst (.slice (g,off') m (c-1))) w):wpList prog ops Q (o::rest) a w:=by
 refine wpList_plain hgd λK hK=>?_;have b1:1<=m+1:=qd
 unfold Oper.wp execOp;rw [ho];by_cases h1:c=1
 .have hm:m=0:=by omega
  subst h1 hm;have:=hK _ _ (h off (λh=>absurd h qd));simp only [XDV,XDW,hx];go_simp;exact this
 .have:=hK _ _ (h (off+1) (λ_=>rfl));simp only [XDV,XDW,hx];go_simp;rw [XAE qd];exact this
section
variable{A:KA}{M M1 M2:KS}{w w' w2:World}{i k:Nat}{x:Cc}{y:Hn}
theorem KM.kE(h:KM A w M)(hk:k<A.C){a:Ac}{r:List Ac}(ha:(M.fr k).acts=a::r):∃g off c,(M.fr k).av=.slice (some ⟨g,off,none⟩) (r.length+1) c/\r.length+1<=c/\w.cell? ⟨g,off,none⟩=some (aF a)/\g<w.heap.size/\M.cl g=50+k/\Row w (some ⟨g,off+1,none⟩) (r.map aF):=by
 obtain⟨B,c,hv,hc,hr,hcl⟩:=(h.fa k hk).1;rw [ha] at hv hc hr hcl;obtain⟨g,off,rfl,hg,hcx⟩:=hr ql;refine⟨g,off,c,by simpa using hv,by simpa using hc,hcx 0 _ R,hg,hcl ql g off R,λhp=>⟨g,off+1,R,hg,λj u hu=>?_⟩⟩;rw [show off+1+j=off+(j+1) from qd];exact hcx (j+1) u (by simpa using hu)
theorem tv(h:KM A w M){p:Nat}{K a b c:Int}(hb:ak w p 157 (bG K a b c)):w.cell? (A.kb,4)=some (.pointer (A.tb,0))/\w.cell? (A.kb,5)=some (.pointer (A.ep,0))/\w.cell? (A.kb,6)=some (.pointer (A.d_,0))/\w.cell? (p,0)=I K/\w.cell? (p,1)=I a/\w.cell? (p,2)=I b/\w.cell? (p,3)=I c:=⟨h.rd.k4,h.rd.k5,h.rd.k6,hb.cell 0,hb.cell 1,hb.cell 2,hb.cell 3⟩
structure Ay(M M':KS)(k:Nat)(r:List Ac):Prop where
 ax:Ax M M' k
 cs:M'.cs=M.cs
 hs:M'.hs=M.hs
 tn:M'.tn=M.tn
 G:M'.G=M.G
 s:M'.s=M.s
 ac:(M'.fr k).acts=r
 hh:(M'.fr k).hs=(M.fr k).hs
 T:M'.T=M.T
 cl:M'.cl=M.cl
theorem KM.tail(h:KM A w M)(hk:k<A.C){a:Ac}{r:List Ac}(ha:(M.fr k).acts=a::r){g off off' cap m:Nat}(_:(M.fr k).av=.slice (g,off) (m+1) cap)(hm:r.length=m)(hcap:m+1<=cap)(hcl:M.cl g=50+k)(hrow:Row w (some ⟨g,off+1,none⟩) (r.map aF))(ho:0<m->off'=off+1):
  ∃M',KM A (w.setCell (A.fb,k*12+3) (.slice (g,off') m (cap-1))) M'/\KF [] M.cl M'.cl w (w.setCell (A.fb,k*12+3) (.slice (g,off') m (cap-1)))/\Ay M M' k r/\M'=M.wf k { M.fr k with av:=.slice (g,off') m (cap-1),acts:=r } :=by
 have h1:=(h.gm k).G_ hk (v:=.slice (g,off') m (cap-1)) (l:=r) ⟨_,cap-1,by rw [XAY,hm],by rw [XAY,hm];omega,λhp=>by rw [ho (by rw [XAY,hm] at hp;exact hp)];exact hrow hp,λhp g' o' e=>by
  injection e with e;injection e with e1 _ _;rw [<-e1];exact hcl⟩ (λb hb=>h.ok.ac k hk b (by rw [ha];exact XBC _ hb)) (by have:=h.ok.al k hk;rw [ha] at this;simp at this;omega)
 rw [Ec] at h1;exact⟨_,h1.km,h1.kf qf,⟨⟨λj hj=>cP hj,qy,qx,R,XAB _⟩,R,R,R,R,R,by show(aL _ k _ k).acts=_;rw [b_],by show(aL _ k _ k).hs=_;rw [b_],R,R⟩,R⟩
theorem KN{w:World}{b b':Nat}{e:TypeId}{size n:Nat}{v:Value}{xs:List Value}(h:w.ownsRow b e size v n xs)(hb:b'<=b):w.ownsRow b' e size v n xs:=
 ⟨h.1,h.2.imp id λ⟨g,cap,cur,h3,h4,h5⟩=>⟨g,cap,cur,h3,XAL hb h4,h5⟩⟩
theorem kH{P:Program}{fn:Func}{ah:Ending->World->Prop}{e:Exit}{a:Act}{w:World}(h:bodyPost P fn ah e a w):bodyPostM Fence.wide 9 P fn ah e a w:=by
 cases e with
 |normal=>obtain⟨h1,v,h2,h3⟩:=h;show LeavesInM _ _ _ _ _ _ a.defers _ _;rw [h1];exact⟨v,h2,h3⟩
 |ret=>obtain⟨h1,v,h2,h3⟩:=h;show LeavesInM _ _ _ _ _ _ a.defers _ _;rw [h1];exact⟨v,h2,h3⟩
 |panic c=>obtain⟨h1,h2⟩:=h;show LeavesInM _ _ _ _ _ _ a.defers _ _;rw [h1];exact h2
 |outgrown=>exact h
 |exit _=>exact h.elim
 |goto _=>exact h.elim
theorem Z2{n:Nat}{G:Nat->Gp}(h:ml n G){x:Int}(hx:1<=x/\x<=n):0<(c_ G (cf n x)).length:=by
 unfold cf;rw [XAE hx];show 0<(jS G _).length;rw [uu h qd];simp
theorem Yg(h:KM A w M)(hs:M.s<=29000)(hk:k<A.C)(K a b c:Int)(r:List Ac)(ha:(M.fr k).acts=⟨157,K,a,b,c⟩::r):Z 73 #[(A.kb,0),I k,.pointer (A.fb,k*12),.agg (bG K a b c)] w (FE A M k w):=by
 have hnew:=h.new;have hz:M.cl w.heap.size=0:=hnew _ (XAB _);obtain⟨g,off,cap,hav,hcap,-,hg,hcl,hrow⟩:=h.kE hk ha;obtain⟨cL,cj,-,-,-,f3,-⟩:=h.dt hk;rw [hav] at f3;have hok:=h.ok.ac k hk _ (by rw [ha];exact XA1);obtain⟨-,hok1,hok2,CW⟩:_:=(hok.resolve_right (λh=>by rcases h with h|h<;>exact absurd (show(157:Nat)=_ from h.1) qf));dsimp only at hok1 hok2 CW;have HC:=XAA h;obtain⟨m,hm⟩:=Xq r.length;rw [hm] at f3 hcap hav;have Fe:=XAA hok1;have NJ:=XAA hok2;have NK:=XAA CW;clear h hok hok1 hok2 CW;refine(XAp (n:=9)).1 ?_;refine callsIn_of_wp_marks func73 rfl trivial ?_ rfl;simp only [ntmps73,List.size_toArray,List.length_cons,List.length_nil,Nat.reduceAdd,Nat.reduceSub,Array.replicate_succ,Array.replicate_zero,List.push_toArray,List.append_toArray,List.nil_append,List.cons_append];refine wpIn_wide.2 ?_;go_wp2_with (refine sP qu _ qu g off m cap qu hcap ?_;intro off' iq);refine bg (λw0 hw0=>?_);obtain⟨M2,H0,F0,Y0,hbx⟩:∃M2,KM A w0 M2/\KF [] M.cl M2.cl w w0/\Ay M M2 k r/\ak w0 w.heap.size 157 (bG K a b c):=by obtain⟨M2,h1,h2,h3,-⟩:=HC.out.tail hk ha hav hm hcap hcl hrow iq;refine⟨M2,by rw [hw0];exact h1.alloc _,by rw [hw0];exact h2.then_ (KF.below [] _ ((XAC _ _).alloc (XAB _) _)),h3,?_⟩;rw [hw0];have:=ak.new (w.setCell (A.fb,k*12+3) (.slice (g,off') m (cap-1))) 157 (bG K a b c);rw [show(w.setCell (A.fb,k*12+3) (.slice (g,off') m (cap-1))).heap.size=w.heap.size from qbt] at this;exact this
 have hz2:M2.cl w.heap.size=0:=by rw [Y0.cl];exact hz
 have hs2:M2.s<=29000:=by rw [Y0.s];exact hs
 have xlt:=hbx.lt;have F0:=XAA F0;have Y0:=XAA Y0;clear hw0 hav hrow hcl hg iq f3 cj cL hcap;have bP:=XAA (KG.refl [1,3,4] H0);have HX0:=XAA hbx;obtain⟨ac1,El,En,Ep,Er,ac_,adb⟩:=tv (a:=a) (b:=b) (K:=K) (c:=c) bP.out.km (HX0.out);clear H0;have HD1:=XAA (bP.out.km.drew);go_wp2;go_region_held3 (λw'=>w'.cell? (A.kb,4)=some (.pointer (A.tb,0))/\w'.cell? (A.kb,5)=some (.pointer (A.ep,0))/\w'.cell? (A.kb,6)=some (.pointer (A.d_,0))/\w'.cell? (w.heap.size,0)=I K/\w'.cell? (w.heap.size,1)=I a/\w'.cell? (w.heap.size,2)=I b/\w'.cell? (w.heap.size,3)=I c) (exact⟨qm,qm,qm,qm,qm,qm,qm⟩) (first|(go_at_call 98;refine(uB _ HD1.out.tr a).mono ?_;rintro e w1 ⟨v1,rfl,ho1,hb1⟩;have aS:=XAA (bP.out.trans (KG.from_ (KG.of_below [1,3,4] HD1.out hb1) (XAC _ _).drew));have oG:Hid (ak w1 w.heap.size 157 (bG K a b c)):=XAA (aS.out.md.blk hbx qhs);obtain⟨Ek,w_,xb,xc,xd,Es,Et⟩:=tv (a:=a) (b:=b) (K:=K) (c:=c) aS.out.km (oG.out);obtain⟨B1,c1,rfl,hr1⟩:=Row.slice ho1;have HR1:=XAA hr1;have E_:=XAA ho1));clear ac1 El En Ep Er ac_ adb hb1 hr1 ho1;obtain⟨P,hP⟩:=Xq (c_ M2.G (cf M2.tn a));obtain⟨mp,hmp⟩:=Xq P.length;have hP2:c_ M.G (cf M.tn a)=P:=by rw [<-Y0.out.G,<-Y0.out.tn];exact hP
 have Fa:Hid (w1.ownsRow w0.drew.heap.size 3 1 (.slice B1 mp c1) mp (P.map nV)):=XAA (by have:=E_.out;rw [hP,hmp] at this;exact this);have Fg:Hid (Row w1 B1 (P.map nV)):=XAA (by have:=HR1.out;rw [hP] at this;exact this);have td:Hid (∀x∈P,1<=x/\x<=16):=XAA λx hx=>by have:=wP HC.out.tr.ok a x (by rw [hP2];exact hx);have:=HC.out.tr.ok.n2;omega
 have Jd:mp<=16:=by have:=XAL (sx HC.out.tr.ok a) HC.out.tr.ok.n2;rw [hP2,hmp] at this;exact this
 rw [hP,hmp];have HP2:=XAA hP2;have mY:=XAA hmp;clear E_ HR1 hP hP2 hmp;rcases (by cases(K==1)<;>simp:(K==1)=true\/(K==1)=false) with q1|q1
 .have hK:K=1:=by simpa using q1
  have hup:dn M2.cs.length M2.hs.length M2.tn M2.G ⟨157,2,a,b,0⟩:=by have h1:=Fe.out (.inl hK);refine .inl ⟨R,λ_=>by rw [Y0.out.tn];exact h1,λ_=>⟨XBG _,?_⟩,λh=>qer⟩;have:=Z2 HC.out.tr.ok h1;rw [Y0.out.tn,Y0.out.G];exact Int.natCast_pos.2 this
  have AT:=XAA hup;clear hup;go_wp2;have HD2:=XAA (aS.out.km.drew);go_wp2;go_region_held3 (λw'=>w'.cell? (A.kb,4)=some (.pointer (A.tb,0))/\w'.cell? (A.kb,5)=some (.pointer (A.ep,0))/\w'.cell? (A.kb,6)=some (.pointer (A.d_,0))/\w'.cell? (w.heap.size,0)=I K/\w'.cell? (w.heap.size,1)=I a/\w'.cell? (w.heap.size,2)=I b/\w'.cell? (w.heap.size,3)=I c) (exact⟨qm,qm,qm,qm,qm,qm,qm⟩) (first|(go_at_call 99;refine(Yq HD2.out hk a b).mono ?_;rintro e w2 ⟨rr,rfl,h4⟩;have aW:=XAA (aS.out.trans (KG.from_ (h4.more ql) (XAC _ _).drew));have oH:Hid (ak w2 w.heap.size 157 (bG K a b c)):=XAA (aW.out.md.blk hbx qhs);obtain⟨adR,An,Mj,Mn,Mo,ad6,ad9⟩:=tv (a:=a) (b:=b) (K:=K) (c:=c) aW.out.km (oH.out)));clear Ek w_ xb xc xd Es Et h4;cases rr with
  |false=>
   go_wp2_with (go_at_call 76;refine(wk (aW.out.km.alloc _) (by show M2.s<=30000;omega) hk [⟨157,2,a,b,0⟩] _ 1 1 R (Row.iR (ak.new w2 20 #[aF ⟨157,2,a,b,0⟩])) (by intro q hq;simp at hq;subst hq;exact AT.out) qd).mono ?_;rintro e w9 ⟨rfl,c9,ye,h9,f9⟩;have H9:=XAA h9;have F9:=XAA f9;clear h9 f9);((try simp only [Exit.inBlock,Exit.then]);first|(refine kH (XCk (XAm R _ _ _) R ?_))|(refine kH (XAI (XAm rfl _ _ _) rfl ?_)));exact⟨rfl,_,H9.out,((F0.out.trans (aW.out.kf qf)).trans (KF.below [] _ ((XAC _ w2).alloc (XAB _) _))).trans F9.out,Y0.out.ax.trans ⟨λj hj=>cP hj,qy,qx,R,XAU _⟩,qgg⟩
  |true=>
   have HD5:=XAA aW.out.km.drew;go_wp2;go_region_held3 (λw'=>w'.cell? (A.kb,4)=some (.pointer (A.tb,0))/\w'.cell? (A.kb,5)=some (.pointer (A.ep,0))/\w'.cell? (A.kb,6)=some (.pointer (A.d_,0))/\w'.cell? (w.heap.size,0)=I K/\w'.cell? (w.heap.size,1)=I a/\w'.cell? (w.heap.size,2)=I b/\w'.cell? (w.heap.size,3)=I c) (exact⟨qm,qm,qm,qm,qm,qm,qm⟩) (first|(go_at_call 100;refine(uc HD5.out a b).mono ?_;rintro e w5 ⟨rfl,f5,h5⟩;have bm:=XAA (aW.out.trans (KG.from_ (h5.more ql) (XAC _ _).drew));have uZ:Hid (ak w5 w.heap.size 157 (bG K a b c)):=XAA (bm.out.md.blk hbx qhs);obtain⟨adS,adW,Ml,ad1,ad4,ad7,ad_⟩:=tv (a:=a) (b:=b) (K:=K) (c:=c) bm.out.km (uZ.out);clear h5));have a_:=bm.out.km.gm k;obtain⟨-,cX,-,-,-,-,-,-,p6,p7,p8,p9,-⟩:=a_.ga hk;have uU:=XAA (a_.vt hk 1 a b c);clear a_;go_wp2;((try simp only [Exit.inBlock,Exit.then]);first|(refine kH (XCk (XAm R _ _ _) R ?_))|(refine kH (XAI (XAm rfl _ _ _) rfl ?_)));refine⟨rfl,_,uU.out.km,(F0.out.trans (bm.out.kf qf)).trans (uU.out.kf qf),Y0.out.ax.trans ⟨λj hj=>cP hj,qy,qx,R,XAB _⟩,qgh⟩
 .rcases (by cases(K==2)<;>simp:(K==2)=true\/(K==2)=false) with q2|q2
  .have HC2:=XAA (NJ.out qcu);have AT:=XAA (Fe.out (.inr qcu));obtain⟨j,hj⟩:∃j:Nat,c=j:=⟨c.toNat,by have:=HC2.out;omega⟩;subst hj;have hjm:j<mp:=by have:=HC2.out.2;rw [HP2.out,mY.out] at this;omega
   obtain⟨x,hx⟩:∃x,P[j]? =some x:=⟨_,XAO (by rw [mY.out];exact hjm)⟩;have hx16:=td.out x (XAi hx);obtain⟨g1,off1,rfl,hg1,hcx⟩:=Fg.out.at_ (k:=j) (by rw [XAY,mY.out];exact hjm);obtain⟨hb1,rfl⟩:=sr Fa.out g1 off1 rfl;have ex:(P.map nV)[j]'(by rw [XAY,mY.out];exact hjm)=nV x:=by rw [XCj];congr 2;exact XAl ((XAO (by rw [mY.out];exact hjm)).symm.trans hx)
   rw [ex,XAV] at hcx;have hg0:M2.cl g1=0:=bP.out.km.new g1 (by simpa using hb1);have cc1:¬(j:Int)<0:=qd
   have cc2:¬mp<=j:=qd;have HD7:=XAA aS.out.km.drew;clear ex hx;go_wp2;go_region_held3 (λw'=>w'.cell? (A.kb,4)=some (.pointer (A.tb,0))/\w'.cell? (A.kb,5)=some (.pointer (A.ep,0))/\w'.cell? (A.kb,6)=some (.pointer (A.d_,0))/\w'.cell? (w.heap.size,0)=I K/\w'.cell? (w.heap.size,1)=I a/\w'.cell? (w.heap.size,2)=I b/\w'.cell? (w.heap.size,3)=I j/\w'.cell? (g1,j)=some (nV x)) (exact⟨qm,qm,qm,qm,qm,qm,qm,qm⟩) (first|(go_at_call 101;refine(Ys HD7.out _ b).mono ?_;rintro e w7 ⟨r7,rfl,h7⟩;have dd:=XAA (aS.out.trans (KG.from_ (h7.more ql) (XAC _ _).drew));have AV:Hid (ak w7 w.heap.size 157 (bG K a b (j:Int))):=XAA (dd.out.md.blk hbx qhs);obtain⟨ac2,ac3,ac4,ac7,ac9,ada,ade⟩:=tv (a:=a) (b:=b) (K:=K) (c:=(j:Int)) dd.out.km (AV.out);have R7:=XAA (Row.kg Fg.out (KG.from_ h7 (XAC _ _).drew) qf (λ_ g off e=>by injection e with e;injection e with e _ _;subst e;exact hg0));have adf:w7.cell? (g1,j)=some (nV x):=(h7.md.cell (i:=j) (k:=g1) hg1 (by show M2.cl g1∉_;rw [hg0];decide)).trans hcx;have vQ:g1<w7.heap.size:=XAH hg1 h7.md.size;clear h7));clear Ek w_ xb xc xd Es Et hcx hg1;rcases (by cases(r7==0)<;>simp:(r7==0)=true\/(r7==0)=false) with e7|e7
   .have hfl:=dd.out.km.Ci (g:=x) qd;have a8:=dd.out.km.rd.lt;have acZ:=AV.out.lt;have d1:¬(x:Int)<0:=by omega
    have d2:¬17<=x:=qd;go_wp2;(refine bN 18 (w7.heap.size) ?_;intro hxc aA hxh hxn;simp only [List.take,List.drop];(repeat (first|go_big_quiet_step (fail)|quiet_step (fail)));refine XAG ?_;clear hxc aA hxh hxn;intro w1 hb1 hz1 hc1 hf1);have hfz:=dd.out.km.rd.frz (8+x);go_upto_region 18 with fail
    refine bg (λw8 hw8=>?_);have jx:=(dd.out.eZ hb1).trans ((KM.zk (dd.out.km.below hb1) (g:=x) qd (wrap64 (M2.fly x+b))).more (cZ:= [1,3,4]) ql);rw [<-hw8] at jx;have rq:=jx.md.blk hbx qhs;have adQ:=rq.lt;have adP:=rq.frozen;have y0:w8.cell? (w.heap.size,0)=I 2:=(rq.cell 0).trans (by show some (I K)=_;rw [show K=2 from qcu]);have y1:w8.cell? (w.heap.size,1)=I a:=rq.cell 1;have y2:w8.cell? (w.heap.size,2)=I b:=rq.cell 2;have y3:w8.cell? (w.heap.size,3)=I j:=rq.cell 3;have WA:M2.cl w.heap.size=0:=hz2;have EP:=XAA (jx.km.far (p:=⟨w.heap.size,3,none⟩) WA (I ((j:Int)+1)));have ta:Hid (KF [] M.cl M2.cl w w8):=XAA (F0.out.trans (jx.kf qf));have EU:Hid (KF [] M.cl M2.cl w (w8.setCell (w.heap.size,3) (I ((j:Int)+1)))):=XAA ⟨ta.out.os,ta.out.tape,ta.out.output,by simpa [World.setCell] using ta.out.size,ta.out.cls,λl hl hn h0=>(XAN w8 _ _ l (by show l≠w.heap.size;omega)).trans (ta.out.blk l hl hn h0)⟩;have HKK:=XAA jx;clear hw8 jx rq hfl hc1 hf1 hb1 hz1 ac2 ac3 ac4 ac7 ac9 ada ade adf;by_cases hlast:j+1<mp
    .have e1:(j:Int)+1<(mp:Int):=by omega
     have Wu:M2.s<=30000:=qd;have hup:dn M2.cs.length M2.hs.length M2.tn M2.G ⟨157,2,a,b,(j:Int)+1⟩:=.inl ⟨R,λ_=>by rw [Y0.out.tn];exact AT.out,λ_=>⟨by show(0:Int)<=(j:Int)+1;omega,by rw [Y0.out.tn,Y0.out.G];show(j:Int)+1<((c_ M.G (cf M.tn a)).length:Int);rw [HP2.out,mY.out];omega⟩,λh=>qer⟩;have N0:=XAA hup;clear hup;have hwr:wrap64 ((j:Int)+1)=(j:Int)+1:=XBZ _ qd;go_wp2_with (go_at_call 76;refine(wk (EP.out.alloc _) Wu hk [⟨157,2,a,b,(j:Int)+1⟩] _ 1 1 R (Row.iR (by have:=ak.new (w8.setCell (w.heap.size,3) (I ((j:Int)+1))) 20 #[aF ⟨157,2,a,b,(j:Int)+1⟩];rw [show(w8.setCell (w.heap.size,3) (I ((j:Int)+1))).heap.size=w8.heap.size from qbt] at this;exact this)) (by intro q hq;simp at hq;subst hq;exact N0.out) qf).mono ?_;rintro e w9 ⟨rfl,c9,ye,h9,f9⟩;have H9:=XAA h9;have F9:=XAA f9;clear h9 f9);((try simp only [Exit.inBlock,Exit.then]);first|(refine kH (XCk (XAm R _ _ _) R ?_))|(refine kH (XAI (XAm rfl _ _ _) rfl ?_)));exact⟨rfl,_,H9.out,(EU.out.trans (KF.below [] _ ((XAC _ _).alloc (XAB _) _))).trans F9.out,Y0.out.ax.trans ⟨λj hj=>cP hj,qy,qx,R,XAU _⟩,qgg⟩
    .have e1:¬(j:Int)+1<(mp:Int):=by omega
     have hwr:wrap64 ((j:Int)+1)=(j:Int)+1:=XBZ _ qd;have a_:=EP.out.gm k;obtain⟨-,cX,-,-,-,-,-,-,p6,p7,p8,p9,-⟩:=a_.ga hk;have uU:=XAA (a_.vt hk 2 a b ((j:Int)+1));have cL:=a_.fr.1.lt;clear a_;go_wp2;((try simp only [Exit.inBlock,Exit.then]);first|(refine kH (XCk (XAm R _ _ _) R ?_))|(refine kH (XAI (XAm rfl _ _ _) rfl ?_)));exact⟨rfl,_,uU.out.km,EU.out.trans (uU.out.kf qf),Y0.out.ax.trans ⟨λj hj=>cP hj,qy,qx,R,XAB _⟩,qgh⟩
   .have hcap1:mp<=c1:=lP (own_base Fa.out).1;have cc3:¬c1<j:=by omega
    have htl:(P.take j).length=j:=by rw [XBV,mY.out];omega
    have hpl:∀q,q<j->w7.cell? ⟨g1,q,none⟩=some (nV ((P.take j).getD q 0)):=λq hq=>by
     obtain⟨g',off',e',-,hx'⟩:=R7.out (by rw [XAY,mY.out];omega);injection e' with e';injection e' with e1 e2 _;subst e1 e2;have:=hx' q (nV ((P.take j).getD q 0)) (by
      rw [XAa,XBA,List.getElem?_take,XAE hq,XAO (by rw [mY.out];omega)];rfl)
     rw [XAV] at this;exact this
    obtain⟨i0,hi,hz0,hz1,hz2'⟩:=XA4 gg;have HX:=AV.out;have acZ:=HX.lt;go_wp2_with (go_at_call 102;refine(Rg _ _ _ _).mono ?_;rintro e w9 ⟨rfl,rfl⟩);refine(wpIn_wide (n:=9)).1 ?_;have bU:=(Boxed.new w7 155 (.slice none 0 0)).alloc (.cells #[.slice (g1,0) j c1] 25);have bS:=Boxed.new (w7.alloc (.cells #[.slice none 0 0] 155)) 25 (.slice (g1,0) j c1);have iP:Below w7 w7 ((w7.alloc (.cells #[.slice none 0 0] 155)).alloc (.cells #[.slice (g1,0) j c1] 25)):=((XAC _ w7).alloc (XAB _) _).alloc ql _;have hsz:((w7.alloc (.cells #[.slice none 0 0] 155)).alloc (.cells #[.slice (g1,0) j c1] 25)).heap.size=w7.heap.size+2:=ql
    simp only [XAT] at bS;obtain⟨W0,hW0⟩:=Xq (((w7.alloc (.cells #[.slice none 0 0] 155)).alloc (.cells #[.slice (g1,0) j c1] 25)));rw [hW0] at bU bS iP hsz ⊢;clear hW0;refine Eg R qd (gf:=143) (lb:=#[.pointer (some ⟨w7.heap.size+1,0,none⟩)]) R trivial (enters_of func143 qh R)
     (oN.KD (Bx:=w7.heap.size+1) (Rh (w7.heap.size+1) g1 c1 (some ⟨g1,0,none⟩) (P.take j) W0 (λ_=>rfl) (λx hx=>(td.out x (XDr hx)).2) qd (by rw [htl];exact bS) (λq hq=>(iP.cell (p:=⟨g1,q,none⟩) vQ).trans (hpl q (by rw [<-htl];exact hq))))) qd (XAC _ _) (λ_=>rfl)
     dL.trans (λW l o o' hl _ _ _=>dL.below (BD W l o' hl) qj)
     (λpre W=>(∃v,Boxed W w7.heap.size 155 v/\W.ownsRow (w7.heap.size+2) 20 1 v pre.length (pre.map λy:Ge=>aF ⟨157,7,(y.g:Int),b,0⟩)/\True)/\Below w7 w7 W/\w7.heap.size+2<=W.heap.size)
     (λ_ _=>False)
     (OwnFrom.and (Own.from (holdsRow_own (w7.heap.size+2) w7.heap.size 155 20 1 (λpre:List Ge=>pre.length) (λpre=>pre.map λy:Ge=>aF ⟨157,7,(y.g:Int),b,0⟩) (λ_ _=>True)) _) (OwnFrom.and (ownFrom_below (XAB _) qd) (λ_ _ _ _ hs hg _=>XAL hs hg.size)))
     (λ_ _ _ _ hs _ _=>hs)
     ?ib
     ⟨⟨_,bU,XBk _ _ _ _,trivial⟩,iP,XAs hsz.symm⟩ ?a1 ?assign ?body ?done ?stop
    case assign=>
     intro l x W K hK;unfold vA
     gi_wp2
     exact hK
    case ib=>
     rintro pre W v ⟨⟨u,hu,hr,-⟩,hR⟩;exact⟨⟨u,hu.other qd v,DK hr λg hg=>XAN W _ v g (by show g≠w7.heap.size+1;have:=(own_base hr).2 g hg;omega),trivial⟩,hR.1.setCell (p:=⟨w7.heap.size+1,0,none⟩) (XAU _) v,by simpa [World.setCell] using hR.2⟩
    case stop=>
     rintro D pre W _ _ h _;exact h.elim
    case body=>
     rintro l pre y W ⟨⟨v,hv,hrow,-⟩,hR,hsW⟩ hlt;have hc:=hv.cell;have y2:=(HX.below hR).cell 2;have uD:=(HX.below hR).lt;have hws:=hR.size;have hvB:=hv.lt
     gi_wp2_with (gi_at_builtin;refine wpListIn_append_own _ R _ _ 155 R (w7.heap.size+2) 20 i0 .nilIface 1 16 fV hi hz0 hz1 hz2' R qf _ _ _ R (hrow.alloc _) ⟨W.heap.size,0,none⟩ 1 1 [aF ⟨157,7,(y.g:Int),b,0⟩] R R (cell_one_new _ _ _) qk qw qd qj ?_;intro v' w1 hown' hgrow _;obtain⟨g',cap',rfl⟩:=ownsRow_succ hown';obtain⟨hv1,hv2,-,hk2,hb2⟩:=hv.appended qf (KN hrow (XCL _ 2)) hR.size (XAB _) (KN hown' (XCL _ 2)) hgrow;have hc1:=hv1.cell;have hf1:=hv1.frozen)
     refine⟨hk2,⟨hb2.size,λq hq=>?_⟩,⟨_,hv2,?_,trivial⟩,hR.trans hb2,XAL hsW hb2.size⟩
     .simp at hq;rcases hq with rfl|rfl
      .exact hb2.block _ vQ
      .exact(XAN w1 _ _ _ (by show w7.heap.size+1≠w7.heap.size;omega)).trans ((hgrow.block _ qj (λe=>by have:=(own_base hrow).2 _ e.symm;omega)).trans (XAX W _ _ qd))
     .have:=DK hown' λq hq=>XAN w1 ⟨w7.heap.size,0,none⟩ (.slice (g',0) (pre.length+1) cap') q (by show q≠w7.heap.size;have:=(own_base hown').2 q hq;omega);simpa using this
    case done=>
     rintro D ys W hD hys ⟨⟨v,hv,hrow,-⟩,hR,hsW⟩ hK;have hc:=hv.cell;have hlen:ys.length=j:=by rw [hys,yj,htl]
     obtain⟨Bv,cv,rfl,-⟩:=Row.slice hrow;have hW:=dd.out.km.below hR;have hDl:D<W.heap.size:=(XDQ.1 hK).1;have hD0:M2.cl D=0:=dd.out.km.new D qd;have Iz:D∉(Value.slice Bv ys.length cv).ownBlock.toList:=λhx=>by
      have e:(Value.slice Bv ys.length cv).ownBlock=some D:=by simpa using hx
      rcases hrow.2 with⟨e1,-⟩|⟨g',cap',cur,e1,-,e2,-⟩
      .rw [e1] at e;cases e
      .rw [e1] at e;have:g'=D:=by simpa [Value.ownBlock] using e
       subst this;rw [hK] at e2;cases e2
     have hmm:(ys.map λy:Ge=>(⟨157,7,(y.g:Int),b,0⟩:Ac)).map aF=ys.map λy:Ge=>aF ⟨157,7,(y.g:Int),b,0⟩:=by rw [XC8];rfl
     have HF:=XAA (sh hW qd hk 120 (ys.map λy:Ge=>(⟨157,7,(y.g:Int),b,0⟩:Ac)) Bv cv ys.length ql (by rw [hmm];exact(own_base hrow).1) (λq hq=>dd.out.km.new q (by have:=(own_base hrow).2 q hq;omega)) (λa' ha'=>by
      obtain⟨y,-,rfl⟩:=XBR.1 ha'
      exact Bd ⟨by show(0:Int)<=(y.g:Int);omega,by show(y.g:Int)<=16;have:=y.h;omega⟩) qd)
     have HRW:=XAA hrow;clear hrow hmm hys hlen;go_wp2_with (go_at_call 103;refine HF.out.mono ?_;rintro e w9 ⟨rfl,c9,f9,h9,Dh,nx,bu⟩);have hK9:=(Dh.blk D hDl Iz hD0).trans hK;have rZ:=Dh.cls D hDl Iz hD0;refine⟨ql,.inl ⟨_,_,R,run_takeDeferred hK9,?_⟩⟩;refine⟨_,XAm R _ _ _,R,_,h9.only (r:=D) ⟨R,R,R,qje,λq hq=>World.putObj_heap_other hq⟩ rZ,?_,Y0.out.ax.trans ⟨λj hj=>cP hj,(by show(aL _ k _ k).next=_;rw [b_];exact nx),(by show(aL _ k _ k).busy=_;rw [b_];exact bu),R,XAU _⟩,qgg⟩;have r_:=F0.out.trans (dd.out.kf qf);have hs7:=r_.size;refine((r_.trans (KF.below [] _ hR)).jZ Dh λq hq hlt=>?_).jZ (X':= [D]) ⟨R,R,R,qje,λ_ _ _ h=>h,λq _ hq _=>World.putObj_heap_other qin⟩ λq hq hlt=>?_
     .have:=(own_base HRW.out).2 q qin;omega
     .simp at hq;omega
  .rcases (by cases(K==7)<;>simp:(K==7)=true\/(K==7)=false) with q7|q7
   .have EG:=XAA (NK.out (by simpa using q7));have HD6:=XAA aS.out.km.drew;go_wp2;go_region_held3 (λw'=>w'.cell? (A.kb,4)=some (.pointer (A.tb,0))/\w'.cell? (A.kb,5)=some (.pointer (A.ep,0))/\w'.cell? (A.kb,6)=some (.pointer (A.d_,0))/\w'.cell? (w.heap.size,0)=I K/\w'.cell? (w.heap.size,1)=I a/\w'.cell? (w.heap.size,2)=I b/\w'.cell? (w.heap.size,3)=I c) (exact⟨qm,qm,qm,qm,qm,qm,qm⟩) (first|(go_at_call 104;refine(J1 HD6.out a b).mono ?_;rintro e w6 ⟨r6,rfl,h6⟩;have cG:=XAA (aS.out.trans (KG.from_ (h6.more ql) (XAC _ _).drew));have xL:Hid (ak w6 w.heap.size 157 (bG K a b c)):=XAA (cG.out.md.blk hbx qhs);obtain⟨adT,adX,adY,ad2,ad5,ad8,aea⟩:=tv (a:=a) (b:=b) (K:=K) (c:=c) cG.out.km (xL.out);clear h6));clear Ek w_ xb xc xd Es Et;obtain⟨an,ha'⟩:∃an:Nat,a=an:=⟨a.toNat,by have:=EG.out;omega⟩;have ha16:an<17:=by have:=EG.out;omega
    subst ha';have hfl:=cG.out.km.Ci (g:=an) ha16;have a8:=cG.out.km.rd.lt;have acY:=xL.out.lt;have b2:¬(an:Int)<0:=qd
    have b3:¬17<=an:=qd;go_wp2;(refine bN 15 (w6.heap.size) ?_;intro hxc aA hxh hxn;simp only [List.take,List.drop];(repeat (first|go_big_quiet_step (fail)|quiet_step (fail)));refine XAG ?_;clear hxc aA hxh hxn;intro w1 hb1 hz1 hc1 hf1);have hfz:=cG.out.km.rd.frz (8+an);go_wp2;((try simp only [Exit.inBlock,Exit.then]);first|(refine kH (XCk (XAm R _ _ _) R ?_))|(refine kH (XAI (XAm rfl _ _ _) rfl ?_)));have H8:=(cG.out.eZ hb1).trans ((KM.zk (cG.out.km.below hb1) (g:=an) ha16 (wrap64 (M2.fly an-b))).more (cZ:= [1,3,4]) ql);exact⟨rfl,_,H8.km,F0.out.trans (H8.kf qf),Y0.out.ax.trans ⟨λ_ _=>rfl,R,R,R,XAB _⟩,qgh⟩
   .go_wp2_with (go_at_call 105;refine(Yk aS.out.km qd hk K a b c).mono ?_;rintro e w9 ⟨rfl,M9,h9,f9,x9,s9⟩;have H9:=XAA h9;have F9:=XAA f9;have X9:=XAA x9;clear h9 f9 x9);((try simp only [Exit.inBlock,Exit.then]);first|(refine kH (XCk (XAm R _ _ _) R ?_))|(refine kH (XAI (XAm R _ _ _) R ?_)));exact⟨R,M9,H9.out,(F0.out.trans (aS.out.kf qf)).trans F9.out,Y0.out.ax.trans X9.out,by rw [<-Y0.out.s];exact s9⟩
end
end
theorem PJ(w:World)(v:Value):(Instr.typeAssert (.iface 157 v) 20 157 true).run prog w=.ok (.tuple #[v,.bool true]) w:=qh
theorem PK(w:World)(v:Value):(Instr.typeAssert (.iface 157 v) 20 173 true).run prog w=.ok (.tuple #[.agg #[I 0,I 0,I 0,I 0],.bool false]) w:=qh
theorem PI(w:World)(v:Value):(Instr.typeAssert (.iface 157 v) 20 176 true).run prog w=.ok (.tuple #[.agg #[I 0,I 0,I 0,I 0],.bool false]) w:=qh
theorem PN(w:World)(v:Value):(Instr.typeAssert (.iface 173 v) 20 157 true).run prog w=.ok (.tuple #[.agg #[I 0,I 0,I 0,I 0],.bool false]) w:=qh
theorem Gc(w:World)(v:Value):(Instr.typeAssert (.iface 173 v) 20 173 true).run prog w=.ok (.tuple #[v,.bool true]) w:=qh
theorem PM(w:World)(v:Value):(Instr.typeAssert (.iface 173 v) 20 176 true).run prog w=.ok (.tuple #[.agg #[I 0,I 0,I 0,I 0],.bool false]) w:=qh
theorem Bs(w:World)(v:Value):(Instr.typeAssert (.iface 176 v) 20 157 true).run prog w=.ok (.tuple #[.agg #[I 0,I 0,I 0,I 0],.bool false]) w:=qh
theorem x_(w:World)(v:Value):(Instr.typeAssert (.iface 176 v) 20 173 true).run prog w=.ok (.tuple #[.agg #[I 0,I 0,I 0,I 0],.bool false]) w:=qh
theorem PH(w:World)(v:Value):(Instr.typeAssert (.iface 176 v) 20 176 true).run prog w=.ok (.tuple #[v,.bool true]) w:=qh
theorem Bq(w:World)(v:Value):(Instr.typeAssert (.iface 176 v) 20 176 false).run prog w=.ok v w:=qh
def mT(a:Ac)(i:Int):Bool:=if a.ty=173 then a.B==i else if a.ty=176 then !(a.K==5) && a.A==i else false
theorem Yu(nc nh tn:Nat)(G:Nat->Gp)(a:Ac)(ha:dn nc nh tn G a)(i:Int)(w:World):Z 184 #[aF a,I i] w λe w'=>e=.returned (.bool (mT a i))/\Below w w w':=by
 obtain⟨ty,K,x,y,z⟩:=a;rcases ha with⟨h,-⟩|⟨h,-⟩|⟨h,-⟩<;>(dsimp only at h;subst h)
 .have e1:=PK;have e2:=PI;show Z 184 #[.iface 157 (.agg #[I K,I x,I y,I z]),I i] w _;go_enter func184,ntmps184;go_wp2;go_ret;exact⟨R,qa⟩
 .have e1:=Gc;have e2:=PM;show Z 184 #[.iface 173 (.agg #[I K,I x,I y,I z]),I i] w _;go_enter func184,ntmps184;go_wp2;go_ret;exact⟨R,qa⟩
 .have e1:=x_;have e2:=PH;show Z 184 #[.iface 176 (.agg #[I K,I x,I y,I z]),I i] w _;rcases (by cases(K==5)<;>simp:(K==5)=true\/(K==5)=false) with hk|hk
  .go_enter func184,ntmps184;go_wp2;all_goals (go_ret;exact⟨by unfold mT;dsimp only;rw [XAD qf,XAE rfl];first|rfl|(rw [hk];rfl)|(simp_all;done),qa⟩)
  .go_enter func184,ntmps184;go_wp2;all_goals (go_ret;exact⟨by unfold mT;dsimp only;rw [XAD qf,XAE rfl];first|rfl|(rw [hk];rfl)|(simp_all;done),qa⟩)
abbrev Jh(y:Hn):Value:=.agg #[nV y.ca,I y.sl,I y.ob,I y.gr,.bool y.out]
theorem XL(y:Hn)(i:Int)(p:Nat)(w:World)(hp:p<w.heap.size)(hc:w.cell? (p,0)=I i):Z 179 #[Jh y,.pointer (p,0)] w λe w'=>e=.returned (.bool (y.out && ((y.ca:Int)==i)))/\Below w w w':=by
 obtain⟨ca,sl,ob,gr,out⟩:=y;cases out with
 |false=>
  show Z 179 #[.agg #[nV ca,I sl,I ob,I gr,.bool false],.pointer (some ⟨p,0,none⟩)] w _;go_enter func179,ntmps179;go_wp2;go_ret;exact⟨R,qa⟩
 |true=>
  show Z 179 #[.agg #[nV ca,I sl,I ob,I gr,.bool true],.pointer (some ⟨p,0,none⟩)] w _;go_enter func179,ntmps179;go_wp2;go_ret;exact⟨R,qa⟩
theorem XZ(y z:Hn)(p:Nat)(w:World)(hp:p<w.heap.size)(h0:w.cell? (p,0)=some (nV z.ca))(h1:w.cell? (p,1)=I z.sl)(h2:w.cell? (p,2)=I z.ob):Z 175 #[Jh y,.pointer (p,0)] w λe w'=>e=.returned (.bool (y.out && (((y.ca:Int)==(z.ca:Int)) && ((y.sl==z.sl) && (y.ob==z.ob)))))/\Below w w w':=by
 obtain⟨ca,sl,ob,gr,out⟩:=y;obtain⟨ca',sl',ob',gr',out'⟩:=z;dsimp only at h0 h1 h2 ⊢;cases out with
 |false=>
  show Z 175 #[.agg #[nV ca,I sl,I ob,I gr,.bool false],.pointer (some ⟨p,0,none⟩)] w _;go_enter func175,ntmps175;go_wp2;go_ret;exact⟨R,qa⟩
 |true=>
  show Z 175 #[.agg #[nV ca,I sl,I ob,I gr,.bool true],.pointer (some ⟨p,0,none⟩)] w _;cases q0:((ca:Int)==(ca':Int)) with
  |false=>
   go_enter func175,ntmps175;go_wp2;go_ret;exact⟨R,qa⟩
  |true=>
   cases q1:(sl==sl') with
   |false=>
    go_enter func175,ntmps175;go_wp2;go_ret;exact⟨R,qa⟩
   |true=>
    cases q2:(ob==ob') with
    |false=>
     go_enter func175,ntmps175;go_wp2;go_ret;exact⟨R,qa⟩
    |true=>
     go_enter func175,ntmps175;go_wp2;go_ret;exact⟨R,qa⟩
section
variable{A:KA}{M M1 M2:KS}{w w' w2:World}{i k:Nat}{x y:Cc}
structure Sn(M M':KS):Prop where
 fr:M'.fr=M.fr
 ds:M'.ds=M.ds
 cs:M.cs.length<=M'.cs.length
 hs:M'.hs.length=M.hs.length
 s:M.s<=M'.s
theorem XB(h:KM A w M)(z:Int)(hz:1<=z/\z<=M.tn):Z 125 #[(A.tb,0),I z] w λe w'=>
  ∃(r er:Int)(c1:Nat->Nat)(tg tn jY:Nat)(G:Nat->Gp),e=.returned (.tuple #[I r,I er])/\0<=r/\r<=16/\KG [2] A M { M with cl:=c1,tg:=tg,tn:=tn,jY:=jY,G:=G } w w':=by
 obtain⟨g,rfl⟩:∃g:Nat,z=(g:Int)+1:=⟨(z-1).toNat,qd⟩;exact XA h qd
def FA(A:KA)(M:KS)(w:World)(e:Ending)(w':World):Prop:=
 ∃(er:Int)(M':KS),e=.returned (I er)/\KM A w' M'/\KF [] M.cl M'.cl w w'/\Sn M M'/\M'.s<=M.s+1
theorem X0(h:KM A w M)(o a b c:Int):Z 84 #[(A.kb,0),.agg #[I o,I a,I b,I c]] w (FA A M w):=by
 have hnew:=h.new;have hz:M.cl w.heap.size=0:=hnew _ (XAB _);have hbx:=ak.new w 63 #[I o,I a,I b,I c];have HC:=XAA h;have n1:=h.tr.ok.n1;have n2:=h.tr.ok.n2;obtain⟨q,hq⟩:=Xq (a % (M.tn:Int));have hq0:0<=q:=by rw [<-hq];exact XBH _ qd
 have hq1:q<M.tn:=by rw [<-hq];exact XBW _ qd
 have HQ:=XAA hq;have NS:Hid (1<=IntKind.i64.wrap (1+q)/\IntKind.i64.wrap (1+q)<=M.tn):=XAA (by rw [show IntKind.i64.wrap (1+q)=1+q from XAM _ qd];omega);have HW:=λW=>XAA (lM a (M.tn:Int) qd qd W);clear h hq;go_enter func84,ntmps84;go_wp2;refine bg (λw0 hw0=>?_);rw [<-hw0] at hbx;have hb0:Below w w w0:=qfz
 have bP:=XAA (HC.out.below hb0);have HD:=XAA (HC.out.below hb0).drew;have k4:=bP.out.rd.k4;have x1:w0.cell? (w.heap.size,1)=I a:=hbx.cell 1;have x2:w0.cell? (w.heap.size,2)=I b:=hbx.cell 2;clear hw0;go_region_held3 (λw'=>w'.cell? (A.kb,4)=some (.pointer (A.tb,0))/\w'.cell? (w.heap.size,1)=I a/\w'.cell? (w.heap.size,2)=I b) (exact⟨qm,qm,qm⟩) (first|(go_at_call 123;refine Xr (D7 _ HD.out.tr) ?_)|(go_at_call 118;refine(HW _).out.mono ?_;rintro e wm ⟨rfl,hwm⟩;replace hwm:=hwm.symm;subst hwm;rw [HQ.out])|(go_at_call 125;refine(XB HD.out _ NS.out).mono ?_;rintro e w2 ⟨r,er,c2,tg2,tn2,adu,G2,rfl,r0,r16,h2⟩;have H2:=XAA h2;have y4:w2.cell? (A.kb,4)=some (.pointer (A.tb,0)):=h2.km.rd.k4;have hbx2:=h2.md.blk (hbx.drew) (by show M.cl w.heap.size∉_;rw [hz];decide);have y1:w2.cell? (w.heap.size,1)=I a:=hbx2.cell 1;have y2:w2.cell? (w.heap.size,2)=I b:=hbx2.cell 2;clear h2));have HB0:=XAA hb0;have hk2:=H2.out.from_ ((XAC _ w0).drew);have aW:=XAA hk2;have HF2:Hid (KF [] M.cl c2 w w2):=XAA ((KF.below [] _ hb0).trans (hk2.kf qf));have oH:Hid (ak w2 w.heap.size 63 #[I o,I a,I b,I c]):=XAA (hk2.md.blk hbx qjq);have k5:=hk2.km.rd.k5;have hc2:c2 w.heap.size=0:=(hk2.cl _ hbx.lt).trans hz;clear hk2 x1 x2 k4;rcases (by cases(er==0)<;>simp:(er==0)=true\/(er==0)=false) with he|he
 .by_cases hb:0<b
  .have HD2:=XAA aW.out.km.drew;go_wp2;go_region_held3 (λw'=>w'.cell? (A.kb,5)=some (.pointer (A.ep,0))/\w'.cell? (w.heap.size,2)=I b) (exact⟨qm,qm⟩) (first|(go_at_call 126;refine(X6 HD2.out _ _).mono ?_;rintro e w3 ⟨r3,rfl,h3⟩;have H3:=XAA h3;have y5:=h3.km.rd.k5;have z2:w3.cell? (w.heap.size,2)=I b:=(h3.md.blk oH.out.drew (by show c2 w.heap.size∉_;rw [hc2];decide)).cell 2;clear h3));go_wp2;go_ret;exact⟨er,_,R,H3.out.km,HF2.out.trans ((H3.out.from_ (XAC _ w2).drew).kf qf),⟨R,R,XAB _,R,XAB _⟩,XAU _⟩
  .go_wp2;go_ret;exact⟨er,_,R,aW.out.km,HF2.out,⟨R,R,XAB _,R,XAB _⟩,XAU _⟩
 .go_wp2;go_ret;exact⟨er,_,R,aW.out.km,HF2.out,⟨R,R,XAB _,R,XAB _⟩,XAU _⟩
end
end Go.Proofs.YtedefgjfgdcfdaaGreatDoor
