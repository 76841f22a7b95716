/- Walks and laws for TopPages. -/
import Derived.Test.YtedefgjfgdcfdaaGreatDoorQ30
namespace Go.Proofs.YtedefgjfgdcfdaaGreatDoor
open Go.RowKit Go.Proofs.Tryz
set_option maxRecDepth 100000
set_option maxHeartbeats 4000000
def xU(cl:Nat->Nat)(w:World)(aK C:Nat)(V:Nat->Value)(K:Nat->List Cl):Prop:=aG w aK 64 ((List.range C).map V)/\cl aK=20/\∀i,i<C->Own cl 20 w 63 4 (V i) (K i).length ((K i).flatMap dT)
section
variable{cl aD:Nat->Nat}{w w' W W1:World}{js:List Nat}{gt:TypeId}{kb fb aK C:Nat}{V:Nat->Value}{K:Nat->List Cl}{cs:Array Value}
theorem xU.mv(h:xU cl w aK C V K)(m:Mv js cl aD w w')(d:20∉js):xU aD w' aK C V K:=⟨m.md.row h.1 (by rw [h.2.1];exact d),m.at_ h.1.lt h.2.1 qf,λi hi=>(h.2.2 i hi).mv m d qf⟩
structure mh(w:World)(gt:TypeId)(kb fb aK C:Nat)(V:Nat->Value)(K:Nat->List Cl)(cl:Nat->Nat)(cs:Array Value)(W:World):Prop where
 gn:ou cl W gt
 bk:ak W kb 58 cs
 ck:cl kb=1
 fr:mV cl W fb C (λ_=>dV 0)
 sc:xU cl W aK C V K
 new:∀q,W.heap.size<=q->cl q=0
 old:∀q,q<w.heap.size->q≠0->cl q=0
 lt:w.heap.size<=kb
 b:Below w w W
theorem mh.next(h:mh w gt kb fb aK C V K cl cs W)(hb:Below W W W1)(f:Nat->Nat)(i:Nat)(v:Value):
  mh w gt kb fb aK C V K (cd cl W W1 f) (cs.setIfInBounds i v) (W1.setCell (kb,i) v)/\Mv [1] cl (cd cl W W1 f) W (W1.setCell (kb,i) v)/\Mv [1] (cd cl W W1 f) (cd cl W W1 f) W1 (W1.setCell (kb,i) v):=by
 have hk:=h.bk.lt;have hs:=hb.size;have hsz:(W1.setCell (kb,i) v).heap.size=W1.heap.size:=qbt
 have hck:cd cl W W1 f kb=1:=(pW hk).trans h.ck;have hnew:∀q,W1.heap.size<=q->cd cl W W1 f q=0:=λq hq=>L6 hq hs;have m1:Mv [1] cl (cd cl W W1 f) W (W1.setCell (kb,i) v):=⟨(Md.of_below cl [1] hb).set (λ_=>by rw [h.ck];simp) i v,λq hq _=>pW hq,λq hq=>hnew q qd⟩;have m2:Mv [1] (cd cl W W1 f) (cd cl W W1 f) W1 (W1.setCell (kb,i) v):=⟨(Md.refl _ [1] W1).set (λ_=>by rw [hck];simp) i v,λ_ _ _=>rfl,λq hq=>hnew q qd⟩;exact⟨⟨h.gn.mv m1 qf,(h.bk.below hb).aJ i v,hck,h.fr.mv m1 qf,h.sc.mv m1 qf,m1.new,λq hq h0=>(pW (by have:=h.b.size;omega)).trans (h.old q hq h0),h.lt,(h.b.trans (hb.mono h.b.size)).setCell h.lt v⟩,m1,m2⟩
theorem mh.store(h:mh w gt kb fb aK C V K cl cs W)(i:Nat)(v:Value):mh w gt kb fb aK C V K cl (cs.setIfInBounds i v) (W.setCell (kb,i) v)/\Mv [1] cl cl W (W.setCell (kb,i) v):=by
 have hsz:(W.setCell (kb,i) v).heap.size=W.heap.size:=qbt;have m1:Mv [1] cl cl W (W.setCell (kb,i) v):=⟨(Md.refl _ [1] W).set (λ_=>by rw [h.ck];simp) i v,λ_ _ _=>rfl,λq hq=>h.new q qd⟩;exact⟨⟨h.gn.mv m1 qf,h.bk.aJ i v,h.ck,h.fr.mv m1 qf,h.sc.mv m1 qf,m1.new,h.old,h.lt,h.b.setCell h.lt v⟩,m1⟩
theorem acn{f:Nat->Nat}(old:∀q,q<W.heap.size->f q=cl q){q:Nat}(hq:q<W1.heap.size):cd cl W W1 f q=f q:=by
 rcases XAc q W.heap.size with h|h
 .rw [pW h,old q h]
 .exact kX h hq
def wC(C n aK fb:Nat)(pv z g st ow tr ch:Value):Array Value:=#[nV C,nV n,.slice (aK,0) C C,pv,tr,ch,st,ow,
 I 0,I 0,I 0,I 0,I 0,I 0,I 0,I 0,I 0,I 0,I 0,I 0,I 0,I 0,I 0,I 0,I 0,
 z,g,.slice none 0 0,.slice none 0 0,.slice (fb,0) C C,.slice none 0 0,I 0,I 0,I (-1)]
abbrev iy(b:Nat):Value:=.pointer (b,0)
structure xR(w:World)(s:Sc)(A:KA)(M:KS)(w':World):Prop where
 km:KM A w' M
 b:Below w w w'
 old:∀q,q<w.heap.size->q≠0->M.cl q=0
 C:A.C=s.C
 n:A.ae.n=s.n
 K:A.K=s.K
 s0:M.s=0
 fr:M.fr=λ_=>dV 0
 cs:M.cs= []
 hs:M.hs= []
 ds:M.ds= []
 gr:∀j,M.gr.L j= []
 T:lB M.T s.n
theorem mh.az{s:Sc}{pv:Value}{ae:i_}{T:Tab}{gb d_ pV ob om tb tg ep:Nat}(h:mh w gt kb fb aK s.C V s.K cl (wC s.C s.n aK fb pv (iy ae.zb) (iy gb) (iy d_) (iy ob) (iy tb) (iy ep)) W)(hok:xT s)
 (zn:aR cl W ae T (λ_=> []) (λ_=>none) 0)(zC:ae.C=s.C)(Ms:ae.n=s.n)(wh:lB T s.n)(gr:jv cl W gb (newG s.C))(st:m9 cl W d_ pV s.C)(ow:kn cl W ob om 0)(tr:bA cl 2 W tb tg 1 1 (λ_=>⟨0,1,false⟩))(ch:mU cl W ep):
  ∃A M,xR w s A M W/\A.kb=kb/\A.gt=gt:=by
 refine⟨⟨kb,tb,ep,d_,pV,ob,om,gb,fb,aK,s.C,ae,V,s.K,pv,gt⟩,⟨cl,0,tg,1,1,λ_=>⟨0,1,false⟩,newG s.C,T,λ_=> [],λ_=>none,0,.slice none 0 0, [],.slice none 0 0, [],λ_=>dV 0,.slice none 0 0, [],λ_=>0,0⟩,⟨?_,h.b,h.old,R,Ms,R,R,R,R,R,R,λ_=>rfl,wh⟩,R,R⟩;refine⟨h.gn,⟨?_,h.ck⟩,tr,ch,st,ow,zn,gr,⟨Own.nil _ _ _ _ _,λi x hx=>(by simp at hx)⟩,Own.nil _ _ _ _ _,h.fr,λi hi=>⟨ie.nil _ _ _,Own.nil _ _ _ _ _⟩,⟨Own.nil _ _ _ _ _,λd hd=>(by cases hd)⟩,h.sc,h.new,?_⟩
 .have hb:=h.bk;unfold wC at hb;show ak W kb _ #[nV s.C,nV ae.n,_,_,_,_,_,_,_,_,_,_,_,_,_,_,_,_,_,_,_,_,_,_,_,_,_,_,_,_,_,_,_,_];rw [Ms];exact hb
 .exact⟨hok.c1,hok.c8,zC,R,XAJ _,XAB _,XAJ _,XAJ _,XAJ _,λ_ hx=>(by cases hx),λi hi a ha=>qdh,λi hi=>XAJ _,λi hi a ha=>qdh,λi hi=>XAJ _,λi hi hb=>(by cases hb),hok.len,hok.ok,λk x hx=>(by cases hx)⟩
end
section
open Go.Shelf
theorem Rw:prog.underlying 64=some (.slice 63):=XEe
theorem Jz:(prog.info? 63).map (λi=>(i.zero,i.size,i.bytes))=some (some (.agg #[I 0,I 0,I 0,I 0]),4,32):=qh
theorem JA:(prog.info? 64).map (λi=>(i.zero,i.size,i.bytes))=some (some (.slice none 0 0),1,24):=qh
structure jA(cl:Nat->Nat)(w:World)(sb cb C n:Nat)(V:Nat->Value)(K:Nat->List Cl):Prop where
 hs:ak w sb 27 #[nV C,nV n,.slice (cb,0) C C,.slice none 0 0]
 hr:aG w cb 64 ((List.range C).map V)
 own:∀i,i<C->Own cl (10+i) w 63 4 (V i) (K i).length ((K i).flatMap dT)
 c1:cl sb=1
 c3:cl cb=3
 ok:∀i,i<C->∀x∈K i,j7 x
section
variable{cl aD:Nat->Nat}{w w':World}{sb cb C n i:Nat}{V:Nat->Value}{K:Nat->List Cl}{js:List Nat}
theorem jA.md(h:jA cl w sb cb C n V K)(hm:Md cl js w w')(h1:1∉js)(h3:3∉js)(h10:∀i,i<C->10+i∉js):jA cl w' sb cb C n V K:=
 ⟨hm.blk h.hs (by rw [h.c1];exact h1),hm.row h.hr (by rw [h.c3];exact h3),λi hi=>(h.own i hi).md hm (h10 i hi),h.c1,h.c3,h.ok⟩
theorem jA.cls(h:jA cl w sb cb C n V K)(he:∀k,k<w.heap.size->aD k=cl k):jA aD w sb cb C n V K:=
 ⟨h.hs,h.hr,λi hi=>(h.own i hi).cls he,(he _ h.hs.lt).trans h.c1,(he _ h.hr.lt).trans h.c3,h.ok⟩
theorem jA.below(h:jA cl w sb cb C n V K)(hb:Below w w w'):jA cl w' sb cb C n V K:=h.md (Md.of_below cl [] hb) ql ql ql
theorem jA.at_(h:jA cl w sb cb C n V K)(hi:i<C):w.cell? (cb,i)=some (V i)/\w.frozen? (cb,i)=false:=⟨h.hr.cell i _ qgy,h.hr.frz i⟩
end
theorem eX.far{n0 b:Nat}{w:World}(h:eX n0 w b){p:Addr}(hp:p.block≠b)(h0:n0<=p.block)(v:Value):eX n0 (w.setCell p v) b:=
 h.keep ((XAC n0 w).setCell h0 v) (XAN w p v b λe=>hp e.symm)
theorem eX.alloc{n0 b:Nat}{w:World}(h:eX n0 w b)(h0:n0<=w.heap.size)(o:Obj):eX n0 (w.alloc o) b:=h.keep ((XAC n0 w).alloc h0 o) (XAX w o b h.lt)
def zO(sb rb cb:Nat):Nat->Nat:=λk=>if k=sb then 1 else if k=rb then 2 else if k=cb then 3 else 0
theorem GF(C:Nat):(madeCells #[.slice none 0 0] C).toList=(List.range C).map λ_=>Value.slice none 0 0:=by
 apply XA5;intro j;rw [XBO,XAa];by_cases hj:j<C
 .rw [ug hj qf,XBX hj];simp
 .rw [XAz qed,XAd qj];rfl
def fm(w:World)(rb sb cb C n k l:Nat)(wr:World):Prop:=∃cl V K,jA cl wr sb cb C n V K/\cl rb=2/\eX w.heap.size wr rb/\Below w w wr/\w.heap.size<=sb/\w.heap.size<=cb/\
 (∀i,(K i).length<=64)/\(∀i,k<i->K i= [])/\(K k).length=l/\∀b,b<w.heap.size->cl b=0
theorem fm.rd{w wr:World}{rb sb cb C n k l:Nat}(h:fm w rb sb cb C n k l wr):eX w.heap.size wr rb:=by obtain⟨cl,V,K,h1,h2,h3,-⟩:=h;exact h3
theorem fm.sz{w wr:World}{rb sb cb C n k l:Nat}(h:fm w rb sb cb C n k l wr):w.heap.size<=wr.heap.size:=by obtain⟨cl,V,K,h1,h2,h3,h4,-⟩:=h;exact h4.size
theorem fm.md{w wr w':World}{rb sb cb C n k l:Nat}(h:fm w rb sb cb C n k l wr)(hR:eX w.heap.size w' rb)(hw:Rws [rb] wr w')(hrb:w.heap.size<=rb):fm w rb sb cb C n k l w':=by
 obtain⟨cl,V,K,h1,h2,h3,h4,h5,h6,h7,h8,h9,hz⟩:=h;have hm:Md cl [2] wr w':=Md.pO hw λg hg _=>by rw [XA2.1 hg,h2];simp
 exact⟨cl,V,K,h1.md hm ql ql (λi _=>qj),h2,hR,Rws.below hw h4 (by simp;exact hrb) h4.size,h5,h6,h7,h8,h9,hz⟩
theorem fm.below{w wr w':World}{rb sb cb C n k l:Nat}(h:fm w rb sb cb C n k l wr)(hb:Below wr wr w'):fm w rb sb cb C n k l w':=by
 obtain⟨cl,V,K,h1,h2,h3,h4,h5,h6,h7,h8,h9,hz⟩:=h;exact⟨cl,V,K,h1.below hb,h2,h3.keep (hb.mono h4.size) (hb.block _ h3.lt),h4.trans (hb.mono h4.size),h5,h6,h7,h8,h9,hz⟩
theorem fm.next{w wr:World}{rb sb cb C n k l:Nat}(h:fm w rb sb cb C n k l wr):fm w rb sb cb C n (k+1) 0 wr:=by
 obtain⟨cl,V,K,h1,h2,h3,h4,h5,h6,h7,h8,h9,hz⟩:=h;exact⟨cl,V,K,h1,h2,h3,h4,h5,h6,h7,λi hi=>h8 i qd,by rw [h8 _ (Nat.lt_succ_self k)];rfl,hz⟩
section
variable{w W w3:World}{rb cb C n k l g3 cap3:Nat}{cl:Nat->Nat}{V:Nat->Value}{K:Nat->List Cl}{cs:Array Value}
theorem zP(hg3:(W.alloc (.cells cs 63)).drew.grownBy w3 (V k).ownBlock)(ho:Own cl (10+k) W 63 4 (V k) l ((K k).flatMap dT)){b:Nat}(hb:b<W.heap.size)(hc:cl b≠10+k):w3.heap[b]? =W.heap[b]? :=
 (hg3.block b (by show b<(W.alloc _).heap.size;simp;omega) (λe=>hc (ho.2 b e.symm).2)).trans (XAX W _ b hb)
theorem abl(hS:jA cl W w.heap.size cb C n V K)(h2:cl rb=2)(CC:eX w.heap.size W rb)(hb:Below w w W)(hc:w.heap.size<=cb)(h7:∀i,(K i).length<=64)(h8:∀i,k<i->K i= [])(h9:(K k).length=l)(hz:∀b,b<w.heap.size->cl b=0)
 (hk:k<C)(hl:l<64)(x:Cl)(hx:j7 x)(ho3:w3.ownsRow 0 63 4 (.slice (g3,0) (l+1) cap3) (l+1) ((K k).flatMap dT++dT x))
 (hg3:(W.alloc (.cells cs 63)).drew.grownBy w3 (V k).ownBlock)(hq3:some g3=(V k).ownBlock\/g3=(W.alloc (.cells cs 63)).drew.heap.size):
  fm w rb w.heap.size cb C n k (l+1) (w3.setCell (cb,k) (.slice (g3,0) (l+1) cap3)):=by
 have hok:=hS.own k hk;rw [h9] at hok;have hsz:(W.alloc (.cells cs 63)).drew.heap.size=W.heap.size+1:=by show(W.alloc _).heap.size=_;simp
 have hs3:=hg3.size;have hlc:=hS.hr.lt;have hls:=hS.hs.lt;have t_:g3≠cb:=hq3.elim (λe h=>by have:=(hok.2 g3 e.symm).2;rw [h,hS.c3] at this;omega) λe h=>qd
 have far:∀b,b<W.heap.size->cl b≠10+k->b≠cb->(w3.setCell (cb,k) (.slice (g3,0) (l+1) cap3)).heap[b]? =W.heap[b]? :=λb h1 h3 h4=>(XAN w3 _ _ b h4).trans (zP hg3 hok h1 h3);have hbz:Below w.heap.size W (w3.setCell (cb,k) (.slice (g3,0) (l+1) cap3)):=by refine⟨hg3.os,hg3.tape,hg3.output,qev,λb h=>far b qjb (by rw [hz b h];omega) qd⟩
 refine⟨ext cl W (10+k),λi=>if i=k then .slice (some ⟨g3,0,none⟩) (l+1) cap3 else V i,λi=>if i=k then K k++ [x] else K i,⟨?_,?_,λi hi=>?_,(dG hls).trans hS.c1,(dG hlc).trans hS.c3,λi hi y hy=>?_⟩,(dG CC.lt).trans h2,CC.keep hbz (far rb CC.lt (by rw [h2];omega) (λe=>by rw [e,hS.c3] at h2;omega)),hb.trans hbz,XAB _,hc,λi=>?_,λi hi=>?_,?_,λb hb'=>?_⟩
 .exact(far _ hls (by rw [hS.c1];omega) (λe=>by have:=hS.c1;rw [e,hS.c3] at this;omega)).trans hS.hs
 .rw [<-Kh];exact(hS.hr.heap (zP hg3 hok hlc (by rw [hS.c3];omega))).set k _
 .by_cases e:i=k
  .subst e;rw [XAE R,XAE R,XAZ,h9,XCJ];refine⟨cM (by simpa using ho3) λg hg=>XAN w3 _ _ g (by have e:g3=g:=qcp;rw [<-e];exact t_),λg hg=>?_⟩;have e:g3=g:=by simpa [Value.ownBlock] using hg
   rw [<-e];refine⟨qim,?_⟩;rcases hq3 with e|e
   .exact(dG (hok.2 g3 e.symm).1).trans (hok.2 g3 e.symm).2
   .exact mA qd
  .rw [XAD e,XAD e];refine⟨cM (hS.own i hi).1 λg hg=>far g ((hS.own i hi).2 g hg).1 (by rw [((hS.own i hi).2 g hg).2];omega) (λe'=>by have:=((hS.own i hi).2 g hg).2;rw [e',hS.c3] at this;omega),λg hg=>?_⟩;have h1:=(hS.own i hi).2 g hg;exact⟨qev,(dG h1.1).trans h1.2⟩
 .split at hy
  .rename_i e;rcases XAe.1 hy with h|h
   .exact hS.ok k hk y h
   .rw [XA2.1 h];exact hx
  .exact hS.ok i hi y hy
 .show(if i=k then K k++ [x] else K i).length<=64;split
  .rw [XAZ,h9];simp;omega
  .exact h7 i
 .show(if i=k then K k++ [x] else K i)= [];rw [XAD qd];exact h8 i hi
 .show(if k=k then K k++ [x] else K k).length=l+1;rw [XAE R,XAZ,h9];rfl
 .exact(dG qjb).trans (hz b hb')
end
structure FQ(w:World)(rb sb cb C n p:Nat)(wr:World)(cl:Nat->Nat)(V:Nat->Value)(K:Nat->List Cl)(pv:Value)(L:List Nat):Prop where
 hb:ak wr sb 27 #[nV C,nV n,.slice (cb,0) C C,pv]
 hr:aG wr cb 64 ((List.range C).map V)
 how:∀i,i<C->Own cl (10+i) wr 63 4 (V i) (K i).length ((K i).flatMap dT)
 hpv:Own cl 4 wr 3 1 pv p (L.map nV)
 hlen:L.length=p
 hx:∀x∈L,x<=255
 c1:cl sb=1
 c3:cl cb=3
 c2:cl rb=2
 hok:∀i,i<C->∀x∈K i,j7 x
 hrd:eX w.heap.size wr rb
 hbl:Below w w wr
 hsb:w.heap.size<=sb
 h7:∀i,(K i).length<=64
 hz0:∀b,b<w.heap.size->cl b=0
def Ba(w:World)(rb sb cb C n p:Nat)(wr:World):Prop:=∃cl V K pv L,FQ w rb sb cb C n p wr cl V K pv L
theorem fm.picks{w wr:World}{rb cb C n k l:Nat}(h:fm w rb w.heap.size cb C n k l wr):Ba w rb w.heap.size cb C n 0 wr:=by
 obtain⟨cl,V,K,h1,h2,h3,h4,h5,h6,h7,h8,h9,hz⟩:=h;exact⟨cl,V,K,.slice none 0 0, [],h1.hs,h1.hr,h1.own,Own.nil _ _ _ _ _,R,λx hx=>absurd hx XBn,h1.c1,h1.c3,h2,h1.ok,h3,h4,h5,h7,hz⟩
section
variable{w wr w9 jr:World}{rb sb cb C n p g3 cap3:Nat}{cl:Nat->Nat}{pv:Value}{L:List Nat}{cs:Array Value}
theorem zx(r9:Rws [rb] wr.drew w9)(hg3:(w9.alloc (.cells cs 3)).grownBy jr pv.ownBlock)(hpv:Own cl 4 wr 3 1 pv p (L.map nV)){b:Nat}(hb:b<wr.heap.size)(h1:cl b≠4)(h2:b≠rb):jr.heap[b]? =wr.heap[b]? :=
 (hg3.block b (by have:=r9.size;simp at this ⊢;omega) λe=>h1 (hpv.2 b e.symm).2).trans ((XAX w9 _ b (by have:=r9.size;simp at this;omega)).trans (r9.block b hb qkp))
theorem ZW{V:Nat->Value}{K:Nat->List Cl}(hI:FQ w rb sb cb C n p wr cl V K pv L)(hrb:w.heap.size<=rb)(h9:eX w.heap.size w9 rb)(r9:Rws [rb] wr.drew w9)(z:Nat)(hz:z<=255)
 (hg3:(w9.alloc (.cells cs 3)).grownBy jr pv.ownBlock)(hq3:some g3=pv.ownBlock\/g3=(w9.alloc (.cells cs 3)).heap.size)
 (ho3:jr.ownsRow 0 3 1 (.slice (g3,0) (p+1) cap3) (p+1) (L.map nV++ [nV z])):
  Ba w rb sb cb C n (p+1) (jr.setCell (sb,3) (.slice (g3,0) (p+1) cap3)):=by
 obtain⟨hb,hr,how,hpv,hlen,hx,c1,c3,c2,hok,hrd,hbl,hsb,h7,hz0⟩:=hI;have ls:=hb.lt;have lr:=hrd.lt;have lc:=hr.lt;have s9:=r9.size;have s11:=hg3.size;simp only [XAT] at s11 hq3;have s9':wr.heap.size<=w9.heap.size:=s9;have hne:g3≠sb:=hq3.elim (λe h=>by have:=(hpv.2 g3 e.symm).2;rw [h,c1] at this;omega) λe h=>qd
 have hgr:g3≠rb:=hq3.elim (λe h=>by have:=(hpv.2 g3 e.symm).2;rw [h,c2] at this;omega) λe h=>qd;have far:∀b,b<wr.heap.size->cl b≠4->b≠rb->b≠sb->(jr.setCell (sb,3) (.slice (g3,0) (p+1) cap3)).heap[b]? =wr.heap[b]? :=λb h1 h2 h3 h4=>(XAN jr _ _ b h4).trans (zx r9 hg3 hpv h1 h2 h3);have hbz:Below w.heap.size w9 (jr.setCell (sb,3) (.slice (g3,0) (p+1) cap3)):=by refine⟨hg3.os,hg3.tape,hg3.output,qev,λb h=>(XAN jr _ _ b (by show b≠sb;omega)).trans ((hg3.block b (by have:=hbl.size;simp;omega) λe=>?_).trans (XAX w9 _ b (by have:=hbl.size;omega)))⟩;have:=(hpv.2 b e.symm).2;rw [hz0 b h] at this;omega
 have aE:Below w w w9:=Rws.below r9 hbl.drew (by simp;exact hrb) hbl.size;refine⟨ext cl wr 4,V,K,.slice (some ⟨g3,0,none⟩) (p+1) cap3,L++ [z],?_,hr.heap (far cb lc (by rw [c3];omega) (λe=>by rw [e,c2] at c3;omega) (λe=>by rw [e,c1] at c3;omega)),λi hi=>⟨cM (how i hi).1 λg hg=>?_,λg hg=>?_⟩,⟨?_,λg hg=>?_⟩,by rw [XAZ,hlen];rfl,λx hx'=>?_,(dG ls).trans c1,(dG lc).trans c3,(dG lr).trans c2,hok,?_,aE.trans hbz,hsb,h7,λb h=>(dG (by have:=hbl.size;omega)).trans (hz0 b h)⟩
 .have h1:ak jr sb 27 #[nV C,nV n,.slice (cb,0) C C,pv]:=(zx r9 hg3 hpv ls (by rw [c1];omega) (λe=>by rw [e,c2] at c1;omega)).trans hb;exact h1.aJ 3 _
 .have h1:=(how i hi).2 g hg;exact far g h1.1 (by rw [h1.2];omega) (λe=>by have:=h1.2;rw [e,c2] at this;omega) (λe=>by have:=h1.2;rw [e,c1] at this;omega)
 .have h1:=(how i hi).2 g hg;exact⟨qev,(dG h1.1).trans h1.2⟩
 .rw [XBB];exact cM ho3 λg hg=>XAN jr _ _ g (by have e:g3=g:=qcp;rw [<-e];exact hne)
 .have e:g3=g:=by simpa [Value.ownBlock] using hg
  rw [<-e];refine⟨qim,?_⟩;rcases hq3 with e|e
  .exact(dG (hpv.2 g3 e.symm).1).trans (hpv.2 g3 e.symm).2
  .exact mA qd
 .rcases XAe.1 hx' with h|h
  .exact hx x h
  .rw [XA2.1 h];exact hz
 .refine h9.keep hbz ((XAN jr _ _ rb (λe=>by have e':rb=sb:=e;rw [e',c1] at c2;omega)).trans ((hg3.block rb qj λe=>?_).trans (XAX w9 _ rb qd)));have:=(hpv.2 rb e.symm).2;rw [c2] at this;omega
end
def FP(w:World)(e:Ending)(w':World):Prop:=∃cb V pv s,e=.returned (uw cb pv s)/\oM w' cb V pv s/\Below w w w'
theorem abH(w:World)(A:Option Addr)(m c:Nat)(hmc:m<=c)(hc:c<=9223372036854775807)
 (hr:0<m->∃g off,A=some ⟨g,off,none⟩/\g<w.heap.size/\∀j,j<m->∃u:Nat,u<256/\w.cell? (g,off+j)=some (.int .u8 (u:Int))):
  Z 9 #[.slice A m c] w (FP w):=by
 have B0:=ak.new w 27 #[I 0,I 0,.slice none 0 0,.slice none 0 0];have B1:=ak.new2 w (.cells #[I 0,I 0,.slice none 0 0,.slice none 0 0] 27) 71 #[.slice A m c];have hR:eX w.heap.size ((w.alloc (.cells #[I 0,I 0,.slice none 0 0,.slice none 0 0] 27)).alloc (.cells #[.slice A m c] 71)) (w.heap.size+1):=
  ⟨A,m,c,B1,⟨hmc,hc,XAU _,λhm=>by
   obtain⟨g,off,h1,h2,h3⟩:=hr hm
   refine⟨g,off,h1,h2,λj hj=>?_⟩
   obtain⟨u,h4,h5⟩:=h3 j hj
   exact⟨u,h4,eT (eT h5)⟩⟩⟩
 have HR:=XAA hR;clear hR B1;have m1:=λ(C:Nat) (hC:C<=8) v=>nZ (P:=prog) 24 64 (.slice none 0 0) 24 1 underlying24 JA .i64 .i64 C qd qd v;have M1:=XAA m1;clear m1;go_enter func9,ntmps9;go_wp2_with (first|(go_at_call 18;refine(sJ w.heap.size _ _ HR.out).mono ?_;rintro e w1 ⟨x,hx,rfl,h1,r1⟩;have xM:=ak.rws (B0.alloc _) r1 ql;have f0:=xM.frozen 0;have a0:w1.cell? (w.heap.size,0)=I 0:=xM.cell 0;have H1:=XAA h1;have R1:=XAA r1;clear h1 r1)|(go_at_call 19;refine(LR w.heap.size _ _ (H1.out.far qdy (XAB _) _)).mono ?_;rintro e w2 ⟨y,hy,rfl,h2,r2⟩;obtain⟨C,hC⟩:∃C:Nat,(C:Int)=1+(x:Int) % 8:=⟨1+x % 8,qd⟩;obtain⟨n,hN⟩:∃n:Nat,(n:Int)=1+(y:Int) % 1024:=⟨1+y % 1024,qd⟩;have m4:=ak.rws (xM.aJ 0 _) r2 ql;rw [<-hC] at m4;have yF:C<=8:=qd;have dB:1<=C:=qd;have HC:=XAA hC;have HN:=XAA hN;clear hC hN;have f1:=m4.frozen 1;have f2:=m4.frozen 2;have b0:w2.cell? (w.heap.size,0)=I C:=m4.cell 0;have b1:w2.cell? (w.heap.size,1)=I 0:=m4.cell 1;have b2:w2.cell? (w.heap.size,2)=some (.slice none 0 0):=m4.cell 2;have mk:=M1.out C yF;have z2:=m4.lt;have H2:=XAA h2;have R2:=XAA r2;clear h2 r2));refine bg λW hW=>?_;have hI:fm w (w.heap.size+1) w.heap.size w2.heap.size C n 0 0 W:=by
  rw [hW];have l1:=H2.out.lt;have hb0:Below w w w2:=by refine Rws.below R2.out ?_ ql (by simp [World.setCell];have:=R1.out.size;simp at this;omega);exact Below.setCell (p:=⟨w.heap.size,0,none⟩) (Rws.below R1.out (((XAC _ w).alloc (XAB _) _).alloc ql _) ql (by simp only [XAT];omega)) (XAB _) _
  have k3:=((m4.aJ 1 (I (1+(y:Int) % 1024))).aJ 2 (.slice (w2.heap.size,0) C C)).alloc (.cells (madeCells #[.slice none 0 0] C) 64);rw [<-HN.out] at k3 ⊢;have e2:((w2.setCell (w.heap.size,1) (I n)).setCell (w.heap.size,2) (.slice (w2.heap.size,0) C C)).heap.size=w2.heap.size:=qbt
  refine⟨zO w.heap.size (w.heap.size+1) w2.heap.size,λ_=>.slice none 0 0,λ_=> [],⟨k3,?_,λi hi=>Own.nil _ _ _ _ _,XAE R,?_,λi hi x hx=>absurd hx XBn⟩,?_,?_,?_,XAB _,qd,λi=>XAJ _,λi hi=>rfl,R,λb hb=>?_⟩
  .have h6:=aG.jP (ak.new ((w2.setCell (w.heap.size,1) (I n)).setCell (w.heap.size,2) (.slice (w2.heap.size,0) C C)) 64 (madeCells #[.slice none 0 0] C));rw [GF,e2] at h6;exact h6
  .unfold zO;rw [XAD qd,XAD qd,XAE rfl]
  .unfold zO;rw [XAD qd,XAE rfl]
  .exact(((H2.out.far (p:=⟨w.heap.size,1,none⟩) qdy (XAB _) _).far (p:=⟨w.heap.size,2,none⟩) qdy (XAB _) _).alloc (by rw [e2];omega) _)
  .exact(((hb0.setCell (XAB _) _).setCell (XAB _) _).alloc (by rw [e2];omega) _)
  .unfold zO;rw [XAD qd,XAD qd,XAD qd]
 clear hW B0 HR xM H1 R1 m4 H2 R2 f0 f1 f2 a0 b0 b1 b2 mk M1 hr;obtain⟨rb,hrb⟩:=Xq (w.heap.size+1);obtain⟨cb,hcb⟩:=Xq w2.heap.size;rw [hrb,hcb] at hI ⊢;go_loopw [5,28] (λ_ i wr=>∃k:Nat,k<=C/\i=I k/\fm w rb w.heap.size cb C n k 0 wr) (λ_ i _=>C-(intOf i).toNat)
 case atStart=>exact⟨0,XAJ _,R,hI⟩
 case round=>
  obtain⟨k,hk,rfl,hI⟩:=hrel;by_cases hlt:k<C
  .have t1:(k:Int)<(C:Int):=by omega
   have HI:=XAA hI;clear hI;have ua:w.heap.size<=rb:=qd
   go_wp2_with (go_at_call 18;refine(sJ w.heap.size _ _ HI.out.rd).mono ?_;rintro e w3 ⟨z,hz,rfl,h3,r3⟩;obtain⟨m,hm⟩:∃m:Nat,(z:Int) % 65=(m:Int):=⟨z % 65,qd⟩;have adF:m<=64:=qd;have HJ:=XAA (HI.out.md h3 r3 ua);clear h3 r3);go_loopw [6,34] (λ_ j wj=>∃l:Nat,l<=m/\j=I l/\fm w rb w.heap.size cb C n k l wj) (λ_ j _=>m-(intOf j).toNat)
   case atStart=>exact⟨0,XAJ _,R,HJ.out⟩
   case round=>
    obtain⟨l,hl,rfl,hI⟩:=hrel;by_cases hlm:l<m
    .have t2:(l:Int)<(m:Int):=by omega
     have HI:=XAA hI;clear hI HJ;go_wp2_with (first|(go_at_call 18;(with_reducible refine(sJ w.heap.size _ _ HI.out.rd).mono ?_);rintro e w3 ⟨z3,hz3,rfl,h3,r3⟩;have HI:=XAA (HI.out.md h3 r3 ua);have RD:=XAA h3;have hlt3:=h3.lt;have hw3:=HI.out.sz;clear h3 r3)|(go_at_call 18;(with_reducible refine(sJ w.heap.size _ _ (RD.out.alloc hw3 _)).mono ?_);rintro e w4 ⟨z4,py,rfl,h4,r4⟩;have xN:=ak.rws (ak.new w3 63 #[I ((z3:Int) % 14),I 0,I 0,I 0]) r4 qj;have R4:=XAA (Rws.trans ((Rws.of_below [rb] ((XAC _ w3).alloc (XAB _) _))) r4);have FM:=XAA h4;have q1:w4.cell? (w3.heap.size,1)=I 0:=xN.cell 1;have f1:=xN.frozen 1;clear h4 r4)|(go_at_call 19;refine(LR w.heap.size _ _ (FM.out.far qil hw3 _)).mono ?_;rintro e w5 ⟨z5,Jt,rfl,h5,r5⟩;have xO:=ak.rws (xN.aJ 1 _) r5 qj;have R5:=XAA (Rws.trans (R4.out.far (p:=⟨w3.heap.size,1,none⟩) (XAB _) _) r5);have FN:=XAA h5;have q2:w5.cell? (w3.heap.size,2)=I 0:=xO.cell 2;have f2:=xO.frozen 2;clear h5 r5)|(go_at_call 18;(with_reducible refine(sJ w.heap.size _ _ (FN.out.far qil hw3 _)).mono ?_);rintro e w6 ⟨z6,hz6,rfl,h6,r6⟩;have xP:=ak.rws (xO.aJ 2 _) r6 qj;have R6:=XAA (Rws.trans (R5.out.far (p:=⟨w3.heap.size,2,none⟩) (XAB _) _) r6);have FO:=XAA h6;have q3:w6.cell? (w3.heap.size,3)=I 0:=xP.cell 3;have f3:=xP.frozen 3;clear h6 r6));refine bg λW6 tW=>?_;have u4:ak W6 w3.heap.size 63 #[I ((z3:Int) % 14),I z4,I z5,I z6]:=by rw [tW];exact xP.aJ 3 _
     have VK:fm w rb w.heap.size cb C n k l W6:=by rw [tW];exact HI.out.md (FO.out.far qil hw3 _) (R6.out.far (p:=⟨w3.heap.size,3,none⟩) (XAB _) _) ua
     clear tW xN xO xP R4 R5 R6 RD FM FN FO HI q1 q2 q3 f1 f2 f3;obtain⟨cl,V,K,hS,h2,h3,h4,h5,h6,h7,h8,h9,hz0⟩:=VK;have hok:=hS.own k hlt;rw [h9] at hok;obtain⟨A0,c0,hV⟩:=lQ hok.1;have e1:W6.cell? (w.heap.size,2)=some (.slice (cb,0) C C):=hS.hs.cell 2;obtain⟨e2,f2⟩:=hS.at_ hlt;rw [hV] at e2;have p0:W6.cell? (w3.heap.size,0)=I ((z3:Int) % 14):=u4.cell 0;have p1:W6.cell? (w3.heap.size,1)=I z4:=u4.cell 1;have p2:W6.cell? (w3.heap.size,2)=I z5:=u4.cell 2;have p3:W6.cell? (w3.heap.size,3)=I z6:=u4.cell 3;have s1:=hS.hs.lt;have s2:=hS.hr.lt;have s3:=u4.lt;have hcl:j7 ⟨(z3:Int) % 14,z4,z5,z6⟩:=⟨by show 0<=(z3:Int) % 14;omega,by show(z3:Int) % 14<=13;omega,by show(0:Int)<=z4;omega,by show(z4:Int)<=255;omega,by show(0:Int)<=z5;omega,by show(z5:Int)<=65535;omega,by show(0:Int)<=z6;omega,by show(z6:Int)<=255;omega⟩;have hdone:=λg3 cap3 w7 ho hg hq=>abl (cs:=#[I ((z3:Int) % 14),I z4,I z5,I z6]) (g3:=g3) (cap3:=cap3) (w3:=w7) hS h2 h3 h4 h6 h7 h8 h9 hz0 hlt qd _ hcl ho hg hq;have CL:=λw7 hg=>zP (cs:=#[I ((z3:Int) % 14),I z4,I z5,I z6]) (w3:=w7) hg hok s2 (by rw [hS.c3];omega);have hO:=((hok.below ((XAC _ W6).alloc (XAB _) (.cells #[I ((z3:Int) % 14),I z4,I z5,I z6] 63))).1).drew;have hRr:=(Reads.lit W6 63 #[I ((z3:Int) % 14),I z4,I z5,I z6] 1 4 R).drew;have CM:=λw7 hg=>zP (cs:=#[I ((z3:Int) % 14),I z4,I z5,I z6]) (w3:=w7) hg hok s1 (by rw [hS.c1];omega);rw [hV] at hO hdone CL CM;have Nb:=XAA CM;have E1:=XAA e1;have HO:=XAA hO;have NU:=XAA hRr;have HD:=XAA hdone;have HF:=XAA CL;have E2:=XAA e2;have F2:=XAA f2;clear CM hO hRr hdone CL hok hV h7 h8 h9 hz0 h3 h4 hS;apply kJ (A:=λ_ _ w8=>fm w rb w.heap.size cb C n k (l+1) w8)
     .intro hnext;go_region_law (refine iS Jz R qf Rw R _ _ qu _ l ((K k).flatMap dT) qu HO.out (some ⟨W6.heap.size,0,none⟩) 1 1 (dT ⟨(z3:Int) % 14,z4,z5,z6⟩) qu NU.out (by simp [dT,Value.oneCell']) qd qf qd ?_;intro g3 cap3 w7 ho3 hg3 hq3;have y1:=(XAP (w:=W6) (a:=⟨cb,k,none⟩) (HF.out w7 hg3)).trans E2.out;have y2:=(XAh (w:=W6) (a:=⟨cb,k,none⟩) (HF.out w7 hg3)).trans F2.out;have y3:=(XAP (w:=W6) (a:=⟨w.heap.size,2,none⟩) (Nb.out w7 hg3)).trans E1.out);all_goals
       have hD:=HD.out _ _ _ ho3 hg3 hq3;generalize w7.setCell (cb,k) (.slice (g3,0) (l+1) cap3)=w8 at hD ⊢;exact hnext g3 cap3 w8 hD
     .intro g3 cap3 w8 hD;go_wp2;go_roundw
      case rel=>exact⟨l+1,hlm,qbf,hD⟩
      case measure=>simp [intOf];omega
    .obtain rfl:l=m:=by omega
     have t2:¬(l:Int)<(l:Int):=qd;go_wp2_with fail;go_roundw
     case rel=>exact⟨k+1,hlt,qbf,hI.next⟩
     case measure=>simp [intOf];omega
  .obtain rfl:k=C:=by omega
   have t1:¬(k:Int)<(k:Int):=qd;obtain⟨A1,m1,c1,hB1,hR1⟩:=hI.rd;have r0:wr.cell? (rb,0)=some (.slice A1 m1 c1):=hB1.cell 0;obtain⟨P,hP⟩:∃P:Nat,min (m1:Int) 4096=(P:Int):=⟨min m1 4096,qd⟩;have hP2:P<=4096:=qd
   have HI:=XAA hI.picks;clear hI hB1 hR1;go_wp2_with fail;clear hP r0;go_loopw [69] (λi wr=>∃p:Nat,p<=P/\i=I p/\Ba w rb w.heap.size cb k n p wr) (λi _=>P-(intOf i).toNat)
   case atStart=>exact⟨0,XAJ _,R,HI.out⟩
   case round=>
    clear HI;rename_i wr2 _;obtain⟨p,hp,rfl,hI⟩:=hrel;by_cases hlt:p<P
    .have t1:(p:Int)<(P:Int):=by omega
     obtain⟨cl,V,K,pv,L,hI⟩:=hI;have HI:=XAA hI;obtain⟨hb,hr,how,hpv,hlen,hx,c1,c3,c2,hok,hrd,hbl,hsb,h7,hz0⟩:=hI;obtain⟨A0,c0,hV⟩:=lQ hpv.1;subst hV;have e3:wr.cell? (w.heap.size,3)=some (.slice A0 p c0):=hb.cell 3;have hne:w.heap.size≠rb:=qd
     have ls:=hb.lt;have ua:w.heap.size<=rb:=qd
     have RD:=XAA (hrd.keep ((XAC w.heap.size wr).drew) R);have HB:=XAA hb;have xG:=XAA hpv;have E3:=XAA e3;have hn4:cl w.heap.size≠4:=by rw [c1];omega
     have NA:=XAA (λ(g:Nat) (hg:(Value.slice A0 p c0).ownBlock=some g) (e:g=rb)=>(by have:=(hpv.2 g hg).2;rw [e,c2] at this;omega:False));clear hb hr how hpv hx c1 c3 c2 hok hrd hbl hsb h7 hz0 hlen HC;go_wp2
     go_region_law (first
      |(refine LI rfl (by go_simp) (sJ w.heap.size _ _ RD.out) ?_;rintro e w9 ⟨z9,hz9,rfl,h9,r9⟩;refine⟨_,rfl,?_⟩;have Fv:=ak.rws (HB.out.drew) r9 (by simpa using hne);have s9:=Fv.lt;have k9:w9.cell? (w.heap.size,3)=some (.slice A0 p c0):=Fv.cell 3;have NG:=XAA (cM xG.out.1 (w':=w9) λg hg=>r9.block g (xG.out.2 g hg).1 (by simpa using NA.out g hg));have R9:=XAA r9;have H9:=XAA h9;clear r9 h9)
      |(refine iS nP R qf sk R _ _ qu _ p (L.map nV) qu (own_below NG.out ((XAC _ _).alloc (XAB _) _)) (some ⟨w9.heap.size,0,none⟩) 1 1 [nV z9] qu (Reads.lit w9 3 #[nV z9] 1 1 R) qk qd qf qd ?_;intro g3 cap3 jr ho3 hg3 hq3;have y1:=(XAP (w:=wr) (a:=⟨w.heap.size,3,none⟩) (zx R9.out hg3 xG.out ls hn4 hne)).trans E3.out;have y2:=(XAh (w:=wr) (a:=⟨w.heap.size,3,none⟩) (zx R9.out hg3 xG.out ls hn4 hne)).trans (HB.out.frozen 3)))
     all_goals
      have hD:=ZW HI.out ua H9.out R9.out z9 qd hg3 hq3 ho3;clear y1 y2 ho3 hg3 hq3 k9;generalize jr.setCell (w.heap.size,3) (.slice (g3,0) (p+1) cap3)=w12 at hD ⊢;go_wp2;go_roundw
      case rel=>exact⟨p+1,hlt,qbf,hD⟩
      case measure=>simp [intOf];omega
    .obtain rfl:p=P:=by omega
     have t1:¬(p:Int)<(p:Int):=qd;obtain⟨cl,V,K,pv,L,hb,hr,how,hpv,hlen,hx,c1,c3,c2,hok,hrd,hbl,hsb,h7,hz0⟩:=hI;obtain⟨A0,c0,hV⟩:=lQ hpv.1;subst hV;have HB:=XAA hb;have e0:wr.cell? (w.heap.size,0)=I k:=hb.cell 0;have e1:wr.cell? (w.heap.size,1)=I n:=hb.cell 1;have e2:wr.cell? (w.heap.size,2)=some (.slice (cb,0) k k):=hb.cell 2;have e3:wr.cell? (w.heap.size,3)=some (.slice A0 p c0):=hb.cell 3;clear hb;go_wp2_with (refine aU R 27 _ _ R _ R R (HB.out) R qh qk ?_;intro w8 aC kb8;have kc8:=kb8.cell);refine XAI (v:=uw cb (.slice A0 p c0) ⟨k,n,K,L⟩) (by simp [results,results9,go_sem,kc8]) R ?_;refine⟨cb,V,_,⟨k,n,K,L⟩,R,⟨hr.heap (aC.block _ λe=>by rw [e,c1] at c3;omega),λi hi=>cM (how i hi).1 λg hg=>aC.block _ λe=>(by have:=((how i hi).2 g hg).2;rw [e,c1] at this;omega),by rw [hlen];exact cM hpv.1 λg hg=>aC.block _ λe=>(by have:=(hpv.2 g hg).2;rw [e,c1] at this;omega),⟨dB,yF,?_,?_,λi hi=>h7 i,hok,by show L.length<=4096;omega,hx⟩⟩,hbl.trans (aC.below hsb)⟩
     .have:=HN.out;show 1<=n;omega
     .have:=HN.out;show n<=1024;omega
end
theorem Vt{cl:Nat->Nat}{W:World}{b:Nat}{G:Gr}(h:aN W b [b] G)(hL:∀k,G.L k= [])(hc:cl b=6)(hI:Inv G):jv cl W b G:=by
 obtain⟨_,_,cs,hB,hC⟩:=h;exact⟨hc,hI,List.range W.heap.size,⟨XAu.2 hB.lt,λg hg=>XAu.1 hg,cs,hB,⟨hC.size,hC.iN,hC.deep,λk hk=>by obtain⟨v,e,hr⟩:=hC.rows k hk;exact⟨v,e,hr.widen (hL k) _⟩,hC.ended,hC.going,hC.needs⟩⟩,λk hk _=>XAu.2 hk⟩
theorem WJ:(prog.info? 159).map (λi=>(i.zero,i.size,i.bytes))=some (some (.agg #[I 0,I 0,.bool false,.slice none 0 0,I 0,I 0,I 0,I 0,I 0,I 0,.slice none 0 0,I 0]),12,128):=qh
theorem Um(n:Nat):(madeCells #[I 0,I 0,.bool false,.slice none 0 0,I 0,I 0,I 0,I 0,I 0,I 0,.slice none 0 0,I 0] (n*12)).toList=bM n (λ_=>bf (dV 0)):=by
 apply XA5;intro j;rw [XBO];have hl:=oZ (m:=12) (F:=λ_=>bf (dV 0)) (λ_=>rfl) n;by_cases hj:j<n*12
 .rw [ug hj qf];have e:j=j / 12*12+j % 12:=by omega
  have h1:=kN (m:=12) (F:=λ_=>bf (dV 0)) (λ_=>rfl) n (j / 12) (j % 12) qd (XAj _ qf);rw [<-e] at h1;rw [h1];have h2:j % 12<12:=XAj _ qf;rcases (by omega:j % 12=0\/j % 12=1\/j % 12=2\/j % 12=3\/j % 12=4\/j % 12=5\/j % 12=6\/j % 12=7\/j % 12=8\/j % 12=9\/j % 12=10\/j % 12=11) with h|h|h|h|h|h|h|h|h|h|h|h<;>simp [h,bf,dV]
 .rw [XAz qed,XAd qd]
def DF(C n fb cb:Nat)(pv:Value):Array Value:=#[nV C,nV n,.slice (cb,0) C C,pv,.pointer none,.pointer none,.pointer none,.pointer none,
 I 0,I 0,I 0,I 0,I 0,I 0,I 0,I 0,I 0,I 0,I 0,I 0,I 0,I 0,I 0,I 0,I 0,
 .pointer none,.pointer none,.slice none 0 0,.slice none 0 0,.slice (fb,0) C C,.slice none 0 0,I 0,I 0,I (-1)]
section
variable{w:World}{cb:Nat}{V0:Nat->Value}{pv:Value}{s:Sc}
structure tu(w:World)(s:Sc)(kb fb cb:Nat)(pv:Value)(Wk:World)(pv':Value)(aK:Nat)(z:World):Prop where
 bk:ak z kb 58 (wC s.C s.n aK fb pv' (.pointer none) (.pointer none) (.pointer none) (.pointer none) (.pointer none) (.pointer none))
 rc:aG z aK 64 ((List.range s.C).map λ_=>.slice none 0 0)
 rf:aG z fb 159 (bM s.C λ_=>bf (dV 0))
 sb:ak z w.heap.size 27 #[nV s.C,nV s.n,.slice (cb,0) s.C s.C,pv]
 b:Below w w z
 le:Wk.heap.size<=aK
theorem tu.made(w:World)(C:Nat):aG (w.alloc (.cells (madeCells #[.slice none 0 0] C) 64)) w.heap.size 64 ((List.range C).map λ_=>.slice none 0 0):=by
 have h:=aG.jP (ak.new w 64 (madeCells #[.slice none 0 0] C));rw [GF] at h;exact h
theorem KB{kb fb aK:Nat}{Wk z:World}{v:Value}(hk:ak Wk kb 58 (DF s.C s.n fb cb pv)/\aG Wk fb 159 (bM s.C λ_=>bf (dV 0))/\ak Wk w.heap.size 27 #[nV s.C,nV s.n,.slice (cb,0) s.C s.C,pv]/\fb<kb/\w.heap.size<fb)
 (hb:Below w w Wk)(hq:Below Wk Wk z)(hr:aG z aK 64 ((List.range s.C).map λ_=>.slice none 0 0))(hle:Wk.heap.size<=aK):
  tu w s kb fb cb pv Wk v aK ((z.setCell (kb,3) v).setCell (kb,2) (.slice (aK,0) s.C s.C)):=by
 obtain⟨h1,h2,h3,h4,h5⟩:=hk;have hlt:=h1.lt;have far:∀q,q≠kb->((z.setCell (kb,3) v).setCell (kb,2) (.slice (aK,0) s.C s.C)).heap[q]? =z.heap[q]? :=λq hq=>(XAN _ _ _ q (by exact hq)).trans (XAN _ _ _ q (by exact hq));exact⟨((h1.below hq).aJ 3 v).aJ 2 _,hr.heap (far aK qd),(h2.below hq).heap (far fb qd),(far _ qd).trans (h3.below hq),((hb.trans (hq.mono hb.size)).setCell (by show w.heap.size<=kb;omega) _).setCell (by show w.heap.size<=kb;omega) _,hle⟩
def nu(w wr:World)(kb fb:Nat):Nat->Nat:=λq=>if q<w.heap.size then(if q=0 then 99 else 0) else if q<wr.heap.size then(if q=kb then 1 else if q=fb then 10 else 20) else 0
structure m5(w:World)(s:Sc)(kb fb cb:Nat)(pv:Value)(z:World)(pv':Value)(aK j:Nat)(V:Nat->Value)(wr:World):Prop where
 bk:ak wr kb 58 (wC s.C s.n aK fb pv' (.pointer none) (.pointer none) (.pointer none) (.pointer none) (.pointer none) (.pointer none))
 rc:aG wr aK 64 ((List.range s.C).map λi=>if i<j then V i else .slice none 0 0)
 rf:aG wr fb 159 (bM s.C λ_=>bf (dV 0))
 sb:ak wr w.heap.size 27 #[nV s.C,nV s.n,.slice (cb,0) s.C s.C,pv]
 own:∀i,i<j->wr.ownsRow z.heap.size 63 4 (V i) (s.K i).length ((s.K i).flatMap dT)
 b:Below w w wr
 sz:z.heap.size<=wr.heap.size
theorem m5.zero{kb fb aK:Nat}{Wk z:World}{pv':Value}(h:tu w s kb fb cb pv Wk pv' aK z):m5 w s kb fb cb pv z pv' aK 0 (λ_=>.slice none 0 0) z:=
 ⟨h.bk,by simpa using h.rc,h.rf,h.sb,λi hi=>absurd hi (XC_ _),h.b,XAB _⟩
theorem m5.next{kb fb aK j:Nat}{z wr w3:World}{pv' v:Value}{V:Nat->Value}(h:m5 w s kb fb cb pv z pv' aK j V wr)(hj:j<s.C)(hq:Below wr wr w3)(ho:w3.ownsRow wr.heap.size 63 4 v (s.K j).length ((s.K j).flatMap dT))
 (hz:aK<z.heap.size/\w.heap.size<fb/\fb<kb/\kb<aK):m5 w s kb fb cb pv z pv' aK (j+1) (λq=>if q=j then v else V q) (w3.setCell (aK,j) v):=by
 obtain⟨z1,z2,z3,z4⟩:=hz;have far:∀q,q≠aK->(w3.setCell (aK,j) v).heap[q]? =w3.heap[q]? :=λq hq=>XAN _ _ _ q (by exact hq);have hs:=h.sz;have hs3:=hq.size;refine⟨(far _ qd).trans (h.bk.below hq),?_,(h.rf.below hq).heap (far _ qd),(far _ qd).trans (h.sb.below hq),λi hi=>?_,(h.b.trans (hq.mono h.b.size)).setCell (by show w.heap.size<=aK;omega) _,qev⟩
 .have h1:=(h.rc.below hq).set j v;have e:((List.range s.C).map λi=>if i<j then V i else Value.slice none 0 0).set j v=(List.range s.C).map λi=>if i<j+1 then(if i=j then v else V i) else Value.slice none 0 0:=by
   apply XA5;intro i;rw [XBm,XAa,XAa];by_cases hi:i<s.C
   .rw [XBX hi];by_cases e:j=i
    .subst e;simp [hi]
    .rw [XAD e];have e1:(i<j+1)=(i<j):=by rw [eq_iff_iff];omega
     simp only [XEH,e1,XAD (λh=>e (Eq.symm h))]
   .rw [XAd qj];simp;omega
  rw [e] at h1;exact h1
 .by_cases e:i=j
  .subst e;rw [XAE rfl];refine uq (cM (own_base ho).1 λg hg=>far g ?_) λg hg=>?_
   .have:=(own_base ho).2 g hg;omega
   .have:=(own_base ho).2 g hg;omega
  .rw [XAD e];have h1:=h.own i qd;refine uq (cM (own_base h1).1 λg hg=>(far g ?_).trans (hq.block g (cO (own_base h1).1 hg))) λg hg=>(own_base h1).2 g hg;have:=(own_base h1).2 g hg;omega
theorem m5.base{kb fb aK:Nat}{z wr:World}{pv':Value}{V:Nat->Value}{gt:TypeId}(h:m5 w s kb fb cb pv z pv' aK s.C V wr)(hg:ak w 0 gt il)(hz:aK<z.heap.size/\w.heap.size<fb/\fb<kb/\kb<aK):
  mh w gt kb fb aK s.C V s.K (nu w wr kb fb) (wC s.C s.n aK fb pv' (.pointer none) (.pointer none) (.pointer none) (.pointer none) (.pointer none) (.pointer none)) wr:=by
 obtain⟨z1,z2,z3,z4⟩:=hz;have h0:=hg.lt;have hs:=h.sz;refine⟨⟨hg.below h.b,?_⟩,h.bk,?_,⟨h.rf,?_⟩,⟨?_,?_,λi hi=>⟨(own_base (h.own i hi)).1,λg hg=>⟨cO (own_base (h.own i hi)).1 hg,?_⟩⟩⟩,λq hq=>?_,λq hq h0=>?_,qd,h.b⟩
 .unfold nu;rw [XAE h0,XAE rfl]
 .unfold nu;rw [XAD qd,XAE qd,XAE rfl]
 .unfold nu;rw [XAD qd,XAE qd,XAD qd,XAE rfl]
 .have h1:=h.rc;rw [List.map_congr_left (g:=V) λi hi=>XAE (XAu.1 hi)] at h1;exact h1
 .unfold nu;rw [XAD qd,XAE qd,XAD qd,XAD qd]
 .have h1:=(own_base (h.own i hi)).2 g hg;have h2:=cO (own_base (h.own i hi)).1 hg;unfold nu;rw [XAD qd,XAE qd,XAD qd,XAD qd]
 .have:=h.b.size;unfold nu;rw [XAD qd,XAD qd]
 .unfold nu;rw [XAE hq,XAD h0]
theorem RO(l:List Cl):∀u∈l.flatMap dT,u.oneCell'=true:=λu hu=>by
 obtain⟨x,-,hx⟩:=XCi.1 hu;simp only [dT,XBD,XBn,XCZ] at hx;rcases hx with rfl|rfl|rfl|rfl<;>rfl
theorem RU{W:World}{v:Value}{l:List Cl}(h:W.ownsRow 0 63 4 v l.length (l.flatMap dT))(hl:l.length<=64):Z 22 #[v] W λe w'=>∃B c,e=.returned (.slice B l.length c)/\w'.ownsRow W.heap.size 63 4 (.slice B l.length c) l.length (l.flatMap dT)/\Below W W w':=by
 obtain⟨i0,aa⟩:=XA4 Jz;have hc:Z 22 #[v] W _:=BO acL aa R qf sizeOf63 h qd qf (RO l);refine hc.mono λe w' ⟨v',e1,e2,e3⟩=>?_;obtain⟨B,c,rfl⟩:=lQ e2;exact⟨B,c,e1,e2,e3⟩
def FC(w:World)(s:Sc)(gt:TypeId)(e:Ending)(w':World):Prop:=∃A M,e=.returned (.tuple #[(A.kb,0),I 0])/\xR w s A M w'/\A.gt=gt
theorem J4(h:oM w cb V0 pv s){gt:TypeId}(hg:ak w 0 gt il):Z 11 #[uw cb pv s] w (FC w s gt):=by
 have H:=XAA h;have HG:=XAA hg;have hc1:=h.ok.c1;have hc8:=h.ok.c8;have m1:=λv=>nZ (P:=prog) 55 159 (.agg #[I 0,I 0,.bool false,.slice none 0 0,I 0,I 0,I 0,I 0,I 0,I 0,.slice none 0 0,I 0]) 128 12 underlying55 WJ .i64 .i64 s.C qd qd v;clear h hg;go_enter func11,ntmps11;go_upto_region 4 with(go_at_call 20;(refine(abX _ (H.out.below ((XAC _ _).alloc (XAB _) _))).mono ?_);rintro e w1 ⟨rfl,hb1⟩;have HB1:=XAA hb1;clear hb1)
 refine bg (λW hW=>?_);subst hW;have hb0:=(ak.new w 27 #[nV s.C,nV s.n,.slice (cb,0) s.C s.C,pv]).below HB1.out;have B1:Hid (Below w w W):=XAA (((XAC w.heap.size w).alloc (XAB _) _).trans (HB1.out.mono ql));have s0:W.cell? (w.heap.size,0)=some (nV s.C):=hb0.cell 0;have s1:W.cell? (w.heap.size,1)=some (nV s.n):=hb0.cell 1;have s2:W.cell? (w.heap.size,2)=some (.slice (cb,0) s.C s.C):=hb0.cell 2;have s3:W.cell? (w.heap.size,3)=some pv:=hb0.cell 3;have slt:=hb0.lt;have oF:=XAA hb0;clear hb0 HB1;go_wp2;go_region;go_upto_region 5 with fail
 refine bg (λWk yJ=>?_);have hk:ak Wk (W.heap.size+1) 58 (DF s.C s.n W.heap.size cb pv):=by rw [yJ];exact ak.new2 W _ _ _
 have hf:aG Wk W.heap.size 159 (bM s.C λ_=>bf (dV 0)):=by rw [yJ];have h1:=aG.jP ((ak.new W 159 (madeCells #[I 0,I 0,.bool false,.slice none 0 0,I 0,I 0,I 0,I 0,I 0,I 0,.slice none 0 0,I 0] (s.C*12))).alloc (.cells (DF s.C s.n W.heap.size cb pv) 58));rw [Um] at h1;exact h1
 have hbk:Below W W Wk:=by rw [yJ];exact(((XAC _ _).alloc (XAB _) _).alloc ql _).drew
 have BK:Hid (Below w w Wk):=XAA (B1.out.trans (hbk.mono B1.out.size));have hs1:=oF.out.below hbk;obtain⟨kb,hkb⟩:=Xq (W.heap.size+1);obtain⟨fb,hfb⟩:=Xq W.heap.size;have a_:fb<kb/\w.heap.size<fb:=⟨qd,qd⟩;rw [hkb,hfb] at hk ⊢;rw [hfb] at hf;have a8:=hk.lt;have JU:Wk.frozen? (kb,2)=false:=hk.frozen 2;have JV:Wk.frozen? (kb,3)=false:=hk.frozen 3;have k2:Wk.cell? (kb,2)=some (.slice (cb,0) s.C s.C):=hk.cell 2;have k3:Wk.cell? (kb,3)=some pv:=hk.cell 3;have t2:Wk.cell? (w.heap.size,2)=some (.slice (cb,0) s.C s.C):=hs1.cell 2;have t3:Wk.cell? (w.heap.size,3)=some pv:=hs1.cell 3;have slt:=hs1.lt;have HK:=XAA (And.intro hk (And.intro hf (And.intro hs1 a_)));have HP:Hid (∀W',Below Wk Wk W'->Z 21 #[pv] W' λe w'=>∃B n c,e=.returned (.slice B n c)/\Below W' W' w'):=XAA λW' hb=>by
  have h6:W'.ownsRow 0 3 1 pv s.P.length ((s.P.map λx:Nat=>(x:Int)).map (Value.int .i64)):=by rw [XC8];exact cM H.out.pk λg' hg'=>(BK.out.trans (hb.mono BK.out.size)).block g' (cO H.out.pk hg')
  refine(JG h6 (by have:=H.out.ok.pl;omega)).mono λe w' ⟨v',e1,e2,e3⟩=>?_;obtain⟨b3,c3,rfl⟩:=lQ e2;exact⟨b3,_,c3,e1,e3⟩
 have m2:=λv=>nZ (P:=prog) 24 64 (.slice none 0 0) 24 1 underlying24 JA .i64 .i64 s.C qd qd v;clear yJ hk hf hbk hs1 a_ hkb m1 s0 s1 s2 s3 oF B1;apply Sh (A:=λpv' aK z=>tu w s kb fb cb pv Wk pv' aK z)
 .intro hnext;have HP':Hid (∀W',Below Wk Wk W'->Z 21 #[pv] W' λe w'=>(∃B n c,e=.returned (.slice B n c))/\Below Wk Wk w'/\Below W' W' w'):=XAA λW' hb=>(HP.out W' hb).mono λe w' ⟨B,n,c,h1,h2⟩=>⟨⟨B,n,c,h1⟩,hb.trans (h2.mono hb.size),h2⟩;have fg:=hnext;clear hnext;go_region_law (refine LI R (by go_simp) (HP'.out _ qa) ?_;rintro e w3 ⟨⟨B,n,c,rfl⟩,hq,hw⟩;refine⟨_,R,?_⟩;have k23:=(hq.cell (p:=⟨kb,2,none⟩) a8).trans k2;have kz2:=(hq.frozen (p:=⟨kb,2,none⟩) a8).trans JU;have k33:=(hq.cell (p:=⟨kb,3,none⟩) a8).trans k3;have kz3:=(hq.frozen (p:=⟨kb,3,none⟩) a8).trans JV;have Xn:=XAH a8 hq.size;have t23:=(hq.cell (p:=⟨w.heap.size,2,none⟩) slt).trans t2;have sl3:=XAH slt hq.size;have HQ:=XAA hq;have HW:=XAA hw;clear hq hw)
  all_goals first
   |(have hrow:aG w3 Wk.heap.size 64 ((List.range s.C).map λ_=>.slice none 0 0):=aG.heap (tu.made Wk s.C) (HW.out.block Wk.heap.size (by show Wk.heap.size<(Wk.alloc _).heap.size;simp));have h7:=KB (v:=.slice B n c) HK.out BK.out HQ.out hrow (XAB _);clear hrow;generalize (w3.setCell (kb,3) (.slice B n c)).setCell (kb,2) (.slice (Wk.heap.size,0) s.C s.C)=z at h7 ⊢;generalize Wk.heap.size=aK at h7 ⊢;generalize Value.slice B n c=pv' at h7 ⊢;exact fg pv' aK z h7)
   |(have h7:=KB (v:=.slice B n c) HK.out BK.out (HQ.out.alloc HQ.out.size _) (tu.made w3 s.C) HQ.out.size;rw [XD9 _ _ _ _ (by exact Xn),XD9 _ _ _ _ (by show kb<(w3.setCell _ _).heap.size;simp [World.setCell];omega)] at h7;generalize ((w3.setCell (kb,3) (.slice B n c)).setCell (kb,2) (.slice (w3.heap.size,0) s.C s.C)).alloc (.cells (madeCells #[.slice none 0 0] s.C) 64)=z at h7 ⊢;generalize w3.heap.size=aK at h7 ⊢;generalize Value.slice B n c=pv' at h7 ⊢;exact fg pv' aK z h7)
 .rintro pv' aK z hz;have HI0:=XAA (m5.zero hz);obtain⟨-,-,-,q4,q5⟩:=HK.out;have Jo:aK<z.heap.size/\w.heap.size<fb/\fb<kb/\kb<aK:=⟨hz.rc.lt,q5,q4,XAH a8 hz.le⟩;have xI:=XAA Jo;have t2z:z.cell? (w.heap.size,2)=some (.slice (cb,0) s.C s.C):=hz.sb.cell 2;have acS:=hz.sb.lt;clear hz q4 q5 Jo t2 t3 k2 k3 JU JV a8 m2 HP slt;go_upto_region 6 with fail
  go_wp2;go_loopw [6,7,37] (λ_ _ q wr=>∃(j:Nat)(V:Nat->Value),q=I j/\j<=s.C/\m5 w s kb fb cb pv z pv' aK j V wr) (λ_ _ q _=>s.C-(intOf q).toNat)
  case atStart=>exact⟨0,_,R,XAJ _,HI0.out⟩
  case round=>
   obtain⟨j,V,rfl,hj,hI⟩:=hrel;have HI:=XAA hI;clear hI t2z acS;by_cases hlt:j<s.C
   .have a1:(j:Int)<(s.C:Int):=by omega
    have a2:¬(j:Int)<0:=qd;have a3:¬s.C<=j:=qd;have c1:wr.cell? (cb,j)=some (V0 j):=(H.out.row.below HI.out.b).cell j _ qeb;have k2:wr.cell? (kb,2)=some (.slice (aK,0) s.C s.C):=HI.out.bk.cell 2;have HV:Hid (wr.drew.ownsRow 0 63 4 (V0 j) (s.K j).length ((s.K j).flatMap dT)):=XAA (cM (H.out.own j hlt) λg hg=>HI.out.b.block g (cO (H.out.own j hlt) hg));have xq:=XAA (RU HV.out (H.out.ok.len j hlt));have d1:wr.cell? (aK,j)=some (.slice none 0 0):=HI.out.rc.cell j _ (by rw [XAa,XBX hlt];simp);have d2:=HI.out.rc.frz j;have d3:=HI.out.rc.lt;have hne:aK≠kb:=by have:=xI.out;omega
    go_upto_region 9 with fail
    go_region_held3 (λw'=>w'.cell? (kb,2)=some (.slice (aK,0) s.C s.C)) (first|assumption|exact(World.cell?_setCell_far _ _ _ _ hne).trans qm) (first|(go_at_call 22;refine xq.out.mono ?_;rintro e w3 ⟨B,c,rfl,ho3,IN⟩;have hb3:Below wr wr w3:=(XAC _ wr).drew.trans IN;clear IN;have k23:w3.cell? (kb,2)=some (.slice (aK,0) s.C s.C):=(HI.out.bk.below hb3).cell 2;have ND:=XAA ho3;have HB3:=XAA hb3;have d13:=(hb3.cell (p:=⟨aK,j,none⟩) d3).trans d1;have d23:=(hb3.frozen (p:=⟨aK,j,none⟩) d3).trans d2;have d33:=XAH d3 hb3.size;clear ho3 hb3));go_wp2;go_roundw
    case rel=>exact⟨j+1,_,qbf,hlt,HI.out.next hlt HB3.out ND.out xI.out⟩
    case measure=>simp [intOf];omega
   .obtain rfl:j=s.C:=by omega
    go_upto_region 11 with fail
    have mc:=XAA (HI.out.base HG.out xI.out);have oF:=XAA HI.out.sb;have hsk:w.heap.size≠kb:=by have:=xI.out;omega
    obtain⟨vl,hcl0⟩:∃c,nu w wr kb fb=c:=⟨_,R⟩;rw [hcl0] at mc;clear hcl0;have hn1:=H.out.ok.n1;have hn2:=H.out.ok.n2;have hn1:=H.out.ok.n1;have hn2:=H.out.ok.n2;have hn1:=H.out.ok.n1;have hn2:=H.out.ok.n2;have hn1:=H.out.ok.n1;have hn2:=H.out.ok.n2;have s0:wr.cell? (w.heap.size,0)=some (nV s.C):=oF.out.cell 0;have s1:wr.cell? (w.heap.size,1)=some (nV s.n):=oF.out.cell 1;have sl:=oF.out.lt;have JN:wr.cell? (kb,25)=some (.pointer none):=mc.out.bk.cell 25;have J8:=mc.out.bk.frozen 25;have kl:=mc.out.bk.lt;go_upto_region 12 with(go_at_call 23;refine(acK vl wr s.C s.n hc1 hc8 hn1 hn2).mono ?_;rintro e w2 ⟨ae,T,c2,⟨rfl,zC,zn,pY,sQ,xf,adn,zb⟩⟩;have W8:=(zb.cell (p:=⟨kb,25,none⟩) kl).trans JN;have Yy:=(zb.frozen (p:=⟨kb,25,none⟩) kl).trans J8;have kl':=XAH kl zb.size;have HZ:=XAA (And.intro zC (And.intro zn (And.intro pY (And.intro sQ (And.intro xf zb)))));clear zC zn pY sQ xf adn zb)
    refine bg (λV1 hV1=>?_);obtain⟨zC,zn,pY,sQ,xf,zb⟩:=HZ.out;obtain⟨b1,-,n1⟩:=mc.out.next zb c2 25 (iy ae.zb)
    have z1:=(pY.cls (aD:=cd vl wr w2 c2) λq hq=>acn xf hq).mv n1 qf qf qf qf;have sb1:=(oF.out.below zb).far (p:=⟨kb,25,none⟩) hsk (iy ae.zb);rw [<-hV1] at b1 z1 sb1;obtain⟨aD,IQ⟩:∃c,cd vl wr w2 c2=c:=⟨_,R⟩;rw [IQ] at b1 z1;have kd:=XAA b1;have fU:=XAA sb1;have FJ:=XAA z1;have uY:=XAA (And.intro zC (And.intro zn sQ));clear hV1 zC zn pY sQ xf zb b1 n1 z1 sb1 IQ HZ mc oF JN J8 kl W8 Yy kl' s0 s1 sl;have s0:V1.cell? (w.heap.size,0)=some (nV s.C):=fU.out.cell 0;have s1:V1.cell? (w.heap.size,1)=some (nV s.n):=fU.out.cell 1;have sl:=fU.out.lt;have JO:V1.cell? (kb,26)=some (.pointer none):=kd.out.bk.cell 26;have J9:=kd.out.bk.frozen 26;have kl:=kd.out.bk.lt;go_upto_region 13 with(go_at_call 24;refine(Vm s.C hc1 hc8 V1).mono ?_;rintro e w3 ⟨gb,rfl,vB,tR,zb⟩;have W9:=(zb.cell (p:=⟨kb,26,none⟩) kl).trans JO;have Yz:=(zb.frozen (p:=⟨kb,26,none⟩) kl).trans J9;have kl':=XAH kl zb.size;have HZ:=XAA (And.intro vB (And.intro tR zb));clear vB tR zb)
    refine bg (λV2 hV2=>?_);obtain⟨vB,tR,zb⟩:=HZ.out;obtain⟨b1,m1,n1⟩:=kd.out.next zb (λq=>if q=gb then 6 else 7) 26 (iy gb)
    have z1:=FJ.out.mv m1 qf qf qf qf;have g1:=(Vt (cl:=cd aD V1 w3 λq=>if q=gb then 6 else 7) tR (λ_=>rfl) (by rw [kX vB tR.lt];exact XAE R) (Inv.new hc1 hc8)).mv n1 qf qf;have sb1:=(fU.out.below zb).far (p:=⟨kb,26,none⟩) hsk (iy gb);rw [<-hV2] at b1 z1 g1 sb1;obtain⟨lD,yL⟩:∃c,(cd aD V1 w3 λq=>if q=gb then 6 else 7)=c:=⟨_,R⟩;rw [yL] at b1 z1 g1;have jy:=XAA b1;have HS2:=XAA sb1;have FK:=XAA z1;have FG:=XAA g1;clear hV2 vB tR zb b1 m1 n1 z1 g1 sb1 yL HZ kd fU FJ JO J9 kl W9 Yz kl' s0 s1 sl;have s0:V2.cell? (w.heap.size,0)=some (nV s.C):=HS2.out.cell 0;have s1:V2.cell? (w.heap.size,1)=some (nV s.n):=HS2.out.cell 1;have sl:=HS2.out.lt;have JP:V2.cell? (kb,6)=some (.pointer none):=jy.out.bk.cell 6;have J_:=jy.out.bk.frozen 6;have kl:=jy.out.bk.lt;go_upto_region 14 with(go_at_call 25;refine(abA V2 s.C hc1 hc8).mono ?_;rintro e w4 ⟨d_,pV,rfl,l1,l2,sat,zb⟩;have Xd:=(zb.cell (p:=⟨kb,6,none⟩) kl).trans JP;have YE:=(zb.frozen (p:=⟨kb,6,none⟩) kl).trans J_;have kl':=XAH kl zb.size;have HZ:=XAA (And.intro l1 (And.intro l2 (And.intro sat zb)));clear l1 l2 sat zb)
    refine bg (λV3 IF=>?_);obtain⟨l1,l2,sat,zb⟩:=HZ.out;obtain⟨b1,m1,n1⟩:=jy.out.next zb (λ_=>4) 6 (iy d_)
    have z1:=FK.out.mv m1 qf qf qf qf;have g1:=FG.out.mv m1 qf qf;have t1:m9 (cd lD V2 w4 λ_=>4) w4 d_ pV s.C:=⟨⟨_,sat⟩,kX l1 sat.blk.lt,kX l2 sat.row.lt⟩;have t2:=t1.mv n1 qf;have sb1:=(HS2.out.below zb).far (p:=⟨kb,6,none⟩) hsk (iy d_);rw [<-IF] at b1 z1 g1 t2 sb1;obtain⟨GM,IS⟩:∃c,(cd lD V2 w4 λ_=>4)=c:=⟨_,R⟩;rw [IS] at b1 z1 g1 t2;have eb:=XAA b1;have uX:=XAA sb1;have FL:=XAA z1;have FH:=XAA g1;have FI:=XAA t2;clear IF l1 l2 sat zb b1 m1 n1 z1 g1 t1 t2 sb1 IS HZ jy HS2 FK FG JP J_ kl Xd YE kl' s0 s1 sl;have s0:V3.cell? (w.heap.size,0)=some (nV s.C):=uX.out.cell 0;have s1:V3.cell? (w.heap.size,1)=some (nV s.n):=uX.out.cell 1;have sl:=uX.out.lt;have JQ:V3.cell? (kb,7)=some (.pointer none):=eb.out.bk.cell 7;have Ka:=eb.out.bk.frozen 7;have kl:=eb.out.bk.lt;have HOW:Hid (Z 26 #[I 256,I 16] V3 λe w'=>∃b m,e=.returned (.tuple #[.pointer (some ⟨b,0,none⟩),I 0])/\V3.heap.size<=b/\V3.heap.size<=m/\OwnAt w' b m 256 16 0 (λ_ _=>0)/\Below V3 V3 w'):=XAA (Zj 256 16 qf qf qf qf V3);go_upto_region 15 with(go_at_call 26;refine HOW.out.mono ?_;rintro e w5 ⟨ob,om,rfl,l1,l2,sat,zb⟩;have Xf:=(zb.cell (p:=⟨kb,7,none⟩) kl).trans JQ;have YF:=(zb.frozen (p:=⟨kb,7,none⟩) kl).trans Ka;have kl':=XAH kl zb.size;have HZ:=XAA (And.intro l1 (And.intro l2 (And.intro sat zb)));clear l1 l2 sat zb)
    refine bg (λV4 IG=>?_);obtain⟨l1,l2,sat,zb⟩:=HZ.out;obtain⟨b1,m1,n1⟩:=eb.out.next zb (λ_=>5) 7 (iy ob)
    have z1:=FL.out.mv m1 qf qf qf qf;have g1:=FH.out.mv m1 qf qf;have t1:=FI.out.mv m1 qf;have o1:kn (cd GM V3 w5 λ_=>5) w5 ob om 0:=⟨⟨0,_,XAB _,sat⟩,kX l1 sat.blk.lt,kX l2 sat.map.lt⟩;have o2:=o1.mv n1 qf;have sb1:=(uX.out.below zb).far (p:=⟨kb,7,none⟩) hsk (iy ob);rw [<-IG] at b1 z1 g1 t1 o2 sb1;obtain⟨BM,IT⟩:∃c,(cd GM V3 w5 λ_=>5)=c:=⟨_,R⟩;rw [IT] at b1 z1 g1 t1 o2;have tf:=XAA b1;have lu:=XAA sb1;have OF:=XAA z1;have OC:=XAA g1;have OE:=XAA t1;have OD:=XAA o2;clear IG l1 l2 sat zb b1 m1 n1 z1 g1 t1 o1 o2 sb1 IT HZ eb uX FL FH FI JQ Ka kl Xf YF kl' s0 s1 sl;have s0:V4.cell? (w.heap.size,0)=some (nV s.C):=lu.out.cell 0;have s1:V4.cell? (w.heap.size,1)=some (nV s.n):=lu.out.cell 1;have sl:=lu.out.lt;have W_:V4.cell? (kb,4)=some (.pointer none):=tf.out.bk.cell 4;have YA:=tf.out.bk.frozen 4;have Xb:V4.cell? (kb,5)=some (.pointer none):=tf.out.bk.cell 5;have YC:=tf.out.bk.frozen 5;have kl:=tf.out.bk.lt;go_wp2_with (first|(go_at_call 27;refine(acG (cl:=BM) (c:=2) V4).mono ?_;rintro e w6 ⟨tb,tg,rfl,z_,D5,zb⟩;have Xa:=(zb.cell (p:=⟨kb,4,none⟩) kl).trans W_;have YB:=(zb.frozen (p:=⟨kb,4,none⟩) kl).trans YA;have Xc:=(zb.cell (p:=⟨kb,5,none⟩) kl).trans Xb;have YD:=(zb.frozen (p:=⟨kb,5,none⟩) kl).trans YC;have kl':=XAH kl zb.size;have HZ:=XAA (And.intro z_ (And.intro D5 zb));clear z_ D5 zb)|(go_at_call 28;refine(new_any w6).mono ?_;rintro e w7 ⟨ep,rfl,cat,BN,zb⟩;have adp:=(zb.cell (p:=⟨kb,4,none⟩) kl').trans Xa;have adr:=(zb.frozen (p:=⟨kb,4,none⟩) kl').trans YB;have adq:=(zb.cell (p:=⟨kb,5,none⟩) kl').trans Xc;have ads:=(zb.frozen (p:=⟨kb,5,none⟩) kl').trans YD;have adJ:=XAH kl' zb.size;have HY:=XAA (And.intro cat (And.intro BN zb));clear cat BN zb))
    go_ret2
    obtain⟨z_,D5,zb⟩:=HZ.out;obtain⟨cat,BN,zc⟩:=HY.out;have zbc:Below V4 V4 w7:=zb.trans (zc.mono zb.size);obtain⟨b1,m1,n1⟩:=tf.out.next zbc (λq=>if q<w6.heap.size then 2 else 3) 4 (iy tb)
    obtain⟨b2,m2⟩:=b1.store 5 (iy ep);have hs6:=zb.size;have hs7:=zc.size;have z1:=(OF.out.mv m1 qf qf qf qf).mv m2 qf qf qf qf;have g1:=(OC.out.mv m1 qf qf).mv m2 qf qf;have t1:=(OE.out.mv m1 qf).mv m2 qf;have o1:=(OD.out.mv m1 qf).mv m2 qf;have r1:bA (cd BM V4 w7 λq=>if q<w6.heap.size then 2 else 3) 2 w6 tb tg 1 1 (λ_=>⟨0,1,false⟩):=z_.cls λq hq=>by
     unfold ext;by_cases h:q<V4.heap.size
     .rw [pW h,XAE h]
     .rw [kX qd qd,XAD h];exact XAE hq
    have r2:=((r1.below zc).mv n1 qf qf).mv m2 qf qf;have c1:mU (cd BM V4 w7 λq=>if q<w6.heap.size then 2 else 3) w7 ep:=⟨⟨_,_,cat,TB⟩,by
     obtain⟨cs,hb,-⟩:=cat
     rw [kX qd hb.lt]
     exact XAD qd⟩
    have c2:=(c1.mv n1 qf).mv m2 qf;obtain⟨zC,zn,sQ⟩:=uY.out;obtain⟨A,M,hP,hk,hgt⟩:=mh.az b2 H.out.ok z1 zC zn sQ g1 t1 o1 r2 c2;exact⟨A,M,by rw [hk];rfl,hP,hgt⟩
end
structure xQ(s:Sc)(A:KA)(M:KS):Prop where
 C:A.C=s.C
 n:A.ae.n=s.n
 K:A.K=s.K
 s0:M.s=0
 fr:M.fr=λ_=>dV 0
 cs:M.cs= []
 hs:M.hs= []
 ds:M.ds= []
 gr:∀j,M.gr.L j= []
 T:lB M.T s.n
theorem xR.plain{w w':World}{s:Sc}{A:KA}{M:KS}(h:xR w s A M w'):xQ s A M:=⟨h.C,h.n,h.K,h.s0,h.fr,h.cs,h.hs,h.ds,h.gr,h.T⟩
def Oa(w:World)(gt:TypeId)(e:Ending)(w':World):Prop:=∃cb pv s A M,e=.returned (.tuple #[(A.kb,0),uw cb pv s,.bool true])/\KM A w' M/\xQ s A M/\Below w w w'/\(∀q,q<w.heap.size->q≠0->M.cl q=0)/\
 w'.ownsRow 0 3 1 pv s.P.length (s.P.map nV)/\(∀g,pv.ownBlock=some g->g≠0->M.cl g=0)/\xT s/\A.gt=gt
theorem XH(w:World){gt:TypeId}(hg:ak w 0 gt il)(A:Option Addr)(m c:Nat)(hmc:m<=c)(hc:c<=9223372036854775807)
 (hr:0<m->∃g off,A=some ⟨g,off,none⟩/\g<w.heap.size/\∀j,j<m->∃u:Nat,u<256/\w.cell? (g,off+j)=some (.int .u8 (u:Int))):
  Z 4 #[.slice A m c] w (Oa w gt):=by
 have HG:=XAA hg;have HS:Hid (Z 9 #[.slice A m c] (w.alloc (.cells #[I 0,I 0,.slice none 0 0,.slice none 0 0] 27)) (FP (w.alloc (.cells #[I 0,I 0,.slice none 0 0,.slice none 0 0] 27)))):=XAA (abH _ A m c hmc hc λhm=>by
  obtain⟨g,off,h1,h2,h3⟩:=hr hm
  refine⟨g,off,h1,qj,λj hj=>?_⟩
  obtain⟨u,h4,h5⟩:=h3 j hj
  exact⟨u,h4,eT h5⟩)
 clear hg hr;go_enter func4,ntmps4;go_upto_region 2 with(go_at_call 9;refine HS.out.mono ?_;rintro e w1 ⟨cb,V,pv,s,rfl,hs,hb⟩;obtain⟨B,cc,rfl⟩:=lQ hs.pk;have AS:=XAA hs;have HB1:=XAA hb;clear hs hb)
 obtain⟨np,hnp⟩:=Xq s.P.length;have xB:=XAA hnp;rw [hnp] at AS ⊢;clear hnp;refine bg (λW hW=>?_);have hbs:ak W w1.heap.size 27 #[nV s.C,nV s.n,.slice (cb,0) s.C s.C,.slice B np cc]:=qdt
 have hrb:ak W w.heap.size 27 #[I 0,I 0,.slice none 0 0,.slice none 0 0]:=by rw [hW];exact((ak.new w 27 _).below HB1.out).alloc _
 have hs1:=HB1.out.size;have hb1:Below w1 w1 W:=qbq
 have hb0:Below w w W:=(((XAC w.heap.size w).alloc (XAB _) _).trans (HB1.out.mono ql)).trans (hb1.mono (by simp at hs1;omega));have xn:=XAA hbs;have iY:=XAA hrb;have HB0:=XAA hb0;have eQ:=XAA hb1;have y1:W.cell? (w1.heap.size,1)=some (nV s.n):=hbs.cell 1;have yf:=hbs.frozen 1;have yl:=hbs.lt;have hwl:w.heap.size<w1.heap.size:=by simp at hs1;omega
 obtain⟨q,hq⟩:∃q:Nat,(s.n:Int) % 60=q:=⟨((s.n:Int) % 60).toNat,qd⟩;have hq6:q<60:=qd
 have iF:Hid (∀V,Z 10 #[I s.n,I 60] V λe w'=>e=.returned (I q)/\w'=V):=XAA λV=>by rw [<-hq];exact Qt (s.n:Int) 60 qf qf V
 clear hW hbs hrb hb1 hb0 hs1 HB1 hq HS;go_upto_region 3 with(go_at_call 10;refine Xr (iF.out _) ?_)
 refine bg (λW2 hW2=>?_);rw [show(I (1+(q:Int)))=nV (1+q) from XAK (Value.int .i64) qd] at hW2 ⊢;have rY:ak W2 w1.heap.size 27 #[nV s.C,nV (1+q),.slice (cb,0) s.C s.C,.slice B np cc]:=by rw [hW2];exact xn.out.aJ 1 (nV (1+q))
 have hb2:Below w1 w1 W2:=by rw [hW2];exact eQ.out.setCell (XAB _) _
 have hb3:Below w w W2:=by rw [hW2];exact HB0.out.setCell (by show w.heap.size<=w1.heap.size;omega) _
 have Jm:ak W2 w.heap.size 27 #[I 0,I 0,.slice none 0 0,.slice none 0 0]:=by rw [hW2];exact iY.out.far (by show w.heap.size≠w1.heap.size;omega) _
 have hs2:oM W2 cb V (.slice B np cc) { s with n:=1+q } :=by have h:=AS.out.below hb2;exact⟨h.row,h.own,h.pk,⟨h.ok.c1,h.ok.c8,by show 1<=1+q;omega,by show 1+q<=1024;omega,h.ok.len,h.ok.ok,h.ok.pl,h.ok.pk⟩⟩
 have uR:=XAA (J4 hs2 (HG.out.below hb3));have z0:W2.cell? (w1.heap.size,0)=some (nV s.C):=rY.cell 0;have z1:W2.cell? (w1.heap.size,1)=some (nV (1+q)):=rY.cell 1;have z2:W2.cell? (w1.heap.size,2)=some (.slice (cb,0) s.C s.C):=rY.cell 2;have z3:W2.cell? (w1.heap.size,3)=some (.slice B np cc):=rY.cell 3;have zl:=rY.lt;have HB3:=XAA hb3;have MS:=XAA rY;have xH:=XAA Jm;have HS2:=XAA hs2;clear hW2 rY hb2 hb3 Jm hs2 y1 yf yl iF xn iY HB0 eQ AS;go_upto_region 4 with(go_at_call 11;(refine uR.out.mono ?_);rintro e w4 ⟨Am,M,rfl,hP,hgt⟩;have HP:=XAA (And.intro hP hgt);clear hP hgt)
 have hb4:=HP.out.1.b;have ub:=MS.out.below hb4;have se:=xH.out.below hb4;have x0:w4.cell? (w1.heap.size,0)=some (nV s.C):=ub.cell 0;have x1:w4.cell? (w1.heap.size,1)=some (nV (1+q)):=ub.cell 1;have x2:w4.cell? (w1.heap.size,2)=some (.slice (cb,0) s.C s.C):=ub.cell 2;have x3:w4.cell? (w1.heap.size,3)=some (.slice B np cc):=ub.cell 3;have xl:=ub.lt;have r0:w4.cell? (w.heap.size,0)=I 0:=se.cell 0;have r1:w4.cell? (w.heap.size,1)=I 0:=se.cell 1;have r2:w4.cell? (w.heap.size,2)=some (.slice none 0 0):=se.cell 2;have r3:w4.cell? (w.heap.size,3)=some (.slice none 0 0):=se.cell 3;have rf:∀j,w4.frozen? ⟨w.heap.size,j,none⟩=false:=λj=>se.frozen j;have rl:=se.lt;clear hb4 ub se z0 z1 z2 z3 zl;have HR4:=XAA (xH.out.below HP.out.1.b);go_wp2;go_region;have hfin:=((((HR4.out.aJ 0 (nV s.C)).aJ 1 (nV (1+q))).aJ 2 (.slice (cb,0) s.C s.C)).aJ 3 (.slice B np cc)).drew;rw [show nV (1+q)=I (1+(q:Int)) from XAK (Value.int .i64) qd] at hfin;generalize yI:((((w4.setCell (w.heap.size,0) (I s.C)).setCell (w.heap.size,1) (I (1+(q:Int)))).setCell (w.heap.size,2) (.slice (cb,0) s.C s.C)).setCell (w.heap.size,3) (.slice B np cc)).drew=W5;have hfin:ak W5 w.heap.size 27 #[nV s.C,I (1+(q:Int)),.slice (cb,0) s.C s.C,.slice B np cc]:=by rw [<-yI];exact hfin
 have v0:W5.cell? (w.heap.size,0)=I s.C:=hfin.cell 0;have v1:W5.cell? (w.heap.size,1)=I (1+(q:Int)):=hfin.cell 1;have v2:W5.cell? (w.heap.size,2)=some (.slice (cb,0) s.C s.C):=hfin.cell 2;have v3:W5.cell? (w.heap.size,3)=some (.slice B np cc):=hfin.cell 3;clear x0 x1 x2 x3 r0 r1 r2 r3 rf;go_wp2;refine XAI (v:=.tuple #[.pointer (some ⟨Am.kb,0,none⟩),.agg #[nV s.C,I (1+(q:Int)),.slice (some ⟨cb,0,none⟩) s.C s.C,.slice B np cc],.bool true]) (by simp [results,results4,go_sem,v0,v1,v2,v3]) R ?_;obtain⟨hP,hgt⟩:=HP.out;have h0:=HG.out.lt;have hb3:=HB3.out.size;have zB:M.cl w.heap.size=0:=hP.old _ xH.out.lt qd;have far:∀g,g≠w.heap.size->W5.heap[g]? =w4.heap[g]? :=λg hg=>by rw [<-yI];show(World.setCell _ _ _).heap[g]? =_;iterate 4 rw [XAN _ _ _ g (by show g≠w.heap.size;exact hg)]
 refine⟨cb,.slice B np cc,{ s with n:=1+q },Am,M,?_,?_,hP.plain,?_,λg hg hz=>hP.old g qd hz,?_,λg hg hz=>hP.old g (cO HS2.out.pk hg) hz,HS2.out.ok,hgt⟩
 .rw [show(I (1+(q:Int)))=nV (1+q) from XAK (Value.int .i64) qd]
 .rw [<-yI];exact((((hP.km.far (p:=⟨w.heap.size,0,none⟩) zB _).far (p:=⟨w.heap.size,1,none⟩) zB _).far (p:=⟨w.heap.size,2,none⟩) zB _).far (p:=⟨w.heap.size,3,none⟩) zB _).drew
 .rw [<-yI];exact((((((HB3.out.trans (hP.b.mono hb3)).setCell (XAB _) _).setCell (XAB _) _).setCell (XAB _) _).setCell (XAB _) _).drew)
 .show W5.ownsRow 0 3 1 (.slice B np cc) s.P.length (s.P.map nV);exact cM HS2.out.pk λg hg=>(far g λe=>own_ne HS2.out.pk xH.out qf (by rw [hg,e])).trans (hP.b.block g (cO HS2.out.pk hg))
end Go.Proofs.YtedefgjfgdcfdaaGreatDoor
