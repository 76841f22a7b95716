/- Walks and laws for TopPages. -/
import Derived.Test.YtedefgjfgdcfdaaGreatDoorQ30
import Derived.Deep.DeepCutAuto
namespace Go.Proofs.YtedefgjfgdcfdaaGreatDoor
open Go.RowKit Go.Proofs.Tryz
set_option maxRecDepth 100000
set_option maxHeartbeats 4000000
structure Fp(cl:Nat->Nat)(w:World)(p:Nat)(f:Fm):Prop where
 blk:ak w p 159 (bf f).toArray
 p0:cl p=0
 av:Own cl 0 w 20 1 f.av f.acts.length (f.acts.map aF)
 hv:Own cl 0 w 3 1 f.hv f.hs.length (f.hs.map nV)
section
variable{A:KA}{M M1:KS}{cl aD:Nat->Nat}{w w' w3:World}{js X:List Nat}{c e size n k i p g cap:Nat}{v:Value}{xs:List Value}{f:Fm}
theorem zj{e':TypeId}{size' n':Nat}{v':Value}{xs':List Value}(h:w.ownsRow 0 e size v n xs)(h':w.ownsRow 0 e' size' v' n' xs')(he:e≠e')(hg:v.ownBlock=some g)(hg':v'.ownBlock=some g):False:=by
 rcases h.2 with⟨e1,-⟩|⟨a,cap,cur,rfl,-,h5,-⟩
 .rw [e1] at hg;cases hg
 .rcases h'.2 with⟨e1,-⟩|⟨a',cap',cur',rfl,-,h6,-⟩
  .rw [e1] at hg';cases hg'
  .obtain rfl:a=g:=by simpa [Value.ownBlock] using hg
   obtain rfl:a'=a:=qbg;have:=h5.symm.trans h6;simp at this;exact he this.2
theorem Own.kf(h:Own cl 0 w e size v n xs)(k:KF X cl aD w w')(hx:∀g,v.ownBlock=some g->g∉X):Own aD 0 w' e size v n xs:=
 ⟨cM h.1 λg hg=>k.blk g (h.2 g hg).1 (hx g hg) (h.2 g hg).2,λg hg=>⟨XAH (h.2 g hg).1 k.size,k.cls g (h.2 g hg).1 (hx g hg) (h.2 g hg).2⟩⟩
theorem Fp.kf(h:Fp cl w p f)(k:KF [] cl aD w w'):Fp aD w' p f:=⟨(k.keep h.blk h.p0 ql).1,(k.keep h.blk h.p0 ql).2,h.av.kf k (λ_ _=>ql),h.hv.kf k (λ_ _=>ql)⟩
theorem Fp.below(h:Fp cl w p f)(hb:Below w w w'):Fp cl w' p f:=h.kf (KF.below [] cl hb)
theorem KM.zero(h:KM A w M)(hm:Md M.cl [0] w w'):KM A w' M:=by
 have m:Mv [0] M.cl M.cl w w':=⟨hm,λ_ _ _=>rfl,λk hk=>h.new k (XAL hm.size hk)⟩;exact⟨h.gn.mv m ql,h.k.mv m ql,h.tr.mv m ql qf,h.ch.mv m ql,h.st.mv m ql,h.ow.mv m ql,h.zn.mv m ql ql ql ql,h.gr.mv m ql ql,h.cs.mv h.ok.cs m ql,h.hs.mv m ql,h.fr.mv m ql,
  λi hi=>(h.fa i hi).mv m ql ql,h.ds.mv m ql ql,h.sc.mv m ql,m.new,h.ok⟩
theorem Fp.aJ(h:KM A w M)(hp:Fp M.cl w p f)(j:Nat)(u:Value){f':Fm}(e:bf f'=(bf f).set j u)(e1:f'.av=f.av)(e2:f'.acts=f.acts)(e3:f'.hv=f.hv)(e4:f'.hs=f.hs):KM A (w.setCell (p,j) u) M/\Fp M.cl (w.setCell (p,j) u) p f'/\KF [p] M.cl M.cl w (w.setCell (p,j) u):=by
 have hne:∀{e:TypeId}{size n:Nat}{v:Value}{xs:List Value},Own M.cl 0 w e size v n xs->e≠159->∀g,v.ownBlock=some g->g≠p:=λho ht g hg e=>own_ne ho.1 hp.blk ht (by rw [hg,e]);have hs:∀{e:TypeId}{size n:Nat}{v:Value}{xs:List Value},Own M.cl 0 w e size v n xs->e≠159->Own M.cl 0 (w.setCell (p,j) u) e size v n xs:=λho ht=>
  ⟨cM ho.1 λg hg=>XAN w _ _ g (hne ho ht g hg),λg hg=>⟨qis,(ho.2 g hg).2⟩⟩
 have hb:=hp.blk.aJ j u;rw [show(bf f).toArray.setIfInBounds j u=(bf f').toArray by rw [e];simp] at hb;refine⟨h.far (p:=⟨p,j,none⟩) hp.p0 u,⟨hb,hp.p0,?_,?_⟩,R,R,R,qbt,λ_ _ _ h=>h,λq _ hq _=>XAN w _ _ q qin⟩
 .rw [e1,e2];exact hs hp.av qf
 .rw [e3,e4];exact hs hp.hv qf
theorem Fp.fe(h:KM A w M)(hp:Fp M.cl w p f)(u:Int):KM A (w.setCell (p,11) (I u)) M/\Fp M.cl (w.setCell (p,11) (I u)) p { f with e:=u } /\KF [p] M.cl M.cl w (w.setCell (p,11) (I u)):=hp.aJ h 11 _ R R R R rfl
theorem Fp.app(h:KM A w M)(hp:Fp M.cl w p f)(l:List Ac)(m:Nat)(em:l.length=m)(en:f.acts.length=n)(ho3:w3.ownsRow 0 20 1 (.slice (g,0) (n+m) cap) (n+m) (f.acts.map aF++l.map aF))(hg:w.grownBy w3 f.av.ownBlock)(hq:some g=f.av.ownBlock\/g=w.heap.size):
  KM A (w3.setCell (p,3) (.slice (g,0) (n+m) cap)) M/\Fp M.cl (w3.setCell (p,3) (.slice (g,0) (n+m) cap)) p { f with av:=.slice (g,0) (n+m) cap,acts:=f.acts++l } /\
   KF (p::f.av.ownBlock.toList) M.cl M.cl w (w3.setCell (p,3) (.slice (g,0) (n+m) cap)):=by
 subst em en;have hm:Md M.cl [0] w w3:=(Md.refl M.cl [0] w).grown hg λg' hg' _=>by rw [(hp.av.2 g' hg').2];simp
 have hm2:=hm.set (g:=p) (λ_=>by rw [hp.p0];simp) 3 (.slice (g,0) (f.acts.length+l.length) cap);have hap:some p≠f.av.ownBlock:=λe=>own_ne hp.av.1 hp.blk qf e.symm;have hb3:ak w3 p 159 (bf f).toArray:=(hg.block p hp.blk.lt hap).trans hp.blk;have hb:=hb3.aJ 3 (.slice (g,0) (f.acts.length+l.length) cap);have V7:g≠p:=λe=>own_ne ho3 hb3 qf qjp;have hlt:=cO ho3 (g:=g) rfl;have hg0:M.cl g=0:=by
  rcases hq with e|e
  .exact(hp.av.2 g e.symm).2
  .exact h.new g qd
 have hha:∀g',f.hv.ownBlock=some g'->w3.heap[g']? =w.heap[g']? :=λg' hg'=>hg.block g' (hp.hv.2 g' hg').1 λe=>zj hp.hv.1 hp.av.1 qf hg' e.symm;refine⟨h.zero hm2,⟨hb,hp.p0,⟨?_,λg' hg'=>?_⟩,⟨?_,λg' hg'=>?_⟩⟩,hm2.os,hm2.tape,hm2.output,hm2.size,λ_ _ _ h=>h,λq hq2 hq3 _=>?_⟩
 .show(w3.setCell _ _).ownsRow 0 _ 1 (.slice (some ⟨g,0,none⟩) (f.acts.length+l.length) cap) (f.acts++l).length ((f.acts++l).map aF);rw [XAZ,XBB];exact cM ho3 λg' hg'=>XAN w3 _ _ g' (by rw [<-(show g=g' from qbg)];exact V7)
 .have:g=g':=by simpa [Value.ownBlock] using hg'
  subst this;exact⟨qhn,hg0⟩
 .exact cM hp.hv.1 λg' hg'=>(XAN w3 _ _ g' (λe=>own_ne hp.hv.1 hp.blk qf (by rw [hg',show g'=p from e]))).trans (hha g' hg')
 .exact⟨XAH (hp.hv.2 g' hg').1 hm2.size,(hp.hv.2 g' hg').2⟩
 .simp at hq3;exact(XAN w3 _ _ q (by show q≠p;exact hq3.1)).trans (hg.block q hq2 λe=>hq3.2 e.symm)
theorem KM.Un(h:KM A w M)(hk:k<A.C)(hp:Fp M.cl w p f)(hf:j9 A M k f)(hm:Md M.cl [10] w w')(hr:aG w' A.fb 159 (bM A.C λj=>bf (aL M.fr k f j))):∃c1,KM A w' { M with cl:=c1,fr:=aL M.fr k f } /\KF (f.av.ownBlock.toList++f.hv.ownBlock.toList) M.cl c1 w w':=by
 have hne:∀g,f.av.ownBlock=some g->f.hv.ownBlock=some g->False:=λg h1 h2=>zj hp.hv.1 hp.av.1 qf h2 h1;obtain⟨c0,hc0⟩:∃c0:Nat->Nat,c0=λb=>if f.av.ownBlock=some b then 50+k else if f.hv.ownBlock=some b then 40+k else M.cl b:=⟨_,R⟩;have h1:∀b,f.av.ownBlock=some b->c0 b=50+k:=λb e=>by rw [hc0];exact XAE e
 have h2:∀b,f.hv.ownBlock=some b->c0 b=40+k:=λb e=>by rw [hc0];show(if f.av.ownBlock=some b then _ else _)=_;rw [XAD λe'=>hne b e' e,XAE e]
 have h3:∀b,f.av.ownBlock≠some b->f.hv.ownBlock≠some b->c0 b=M.cl b:=λb e e'=>by rw [hc0];show(if f.av.ownBlock=some b then _ else _)=_;rw [XAD e,XAD e']
 have h4:∀b,M.cl b≠0->c0 b=M.cl b:=λb hb=>h3 b (λe=>hb (hp.av.2 b e).2) λe=>hb (hp.hv.2 b e).2;have hw:=h.Li c0 (λb _ hb=>h4 b hb) λb hb=>by rw [h3 b (λe=>by have:=(hp.av.2 b e).1;omega) (λe=>by have:=(hp.hv.2 b e).1;omega)];exact h.new b hb
 have hm':Md c0 [10] w w':=⟨hm.os,hm.tape,hm.output,hm.size,λb hb hn=>hm.block b hb λhj=>by
  simp at hj hn;exact hn ((h4 b qd).trans hj)⟩
 have VJ:gF c0 w k f:=⟨by
   have ho:Own c0 (50+k) w 20 1 f.av (f.acts.map aF).length (f.acts.map aF):=⟨by rw [XAY];exact hp.av.1,λg hg=>⟨(hp.av.2 g hg).1,h1 g hg⟩⟩
   exact ho.zX,hp.hv.1,λg hg=>⟨(hp.hv.2 g hg).1,h2 g hg⟩⟩
 have hkg:=hw.tQ hm' hk hr VJ ⟨hf.ac,hf.al,hf.fh,hf.fl,hf.bu⟩;refine⟨c0,hkg.km,hm.os,hm.tape,hm.output,hm.size,λb _ hx h0=>?_,λb hb _ h0=>hm.block b hb qko⟩;simp at hx;rw [h3 b hx.1 hx.2];exact h0
end
theorem Yx{l:Lay}(h:1<=l.st){o:Nat}(ho:o<=3)(h0:(aX l o).aq≠0):(0<=(aX l o).ord/\(aX l o).ord<=10)/\1<=(aX l o).aq/\(aX l o).aq<=16:=by
 have h1:=KC h o;have h2:(aX l o).aq<=16:=by show min (dr o / l.st) 16<=16;omega
 refine⟨⟨?_,?_⟩,qd,h2⟩
 .show(0:Int)<=(o:Int);omega
 .show(o:Int)<=10;omega
theorem Dw{l:Lay}(h:1<=l.st):∀(n o:Nat)(f:Option Lay),n+o<=4->(∀y,f=some y->(0<=y.ord/\y.ord<=10)/\1<=y.aq/\y.aq<=16)->(scan l n o f).2=0->(0<=(scan l n o f).1.ord/\(scan l n o f).1.ord<=10)/\1<=(scan l n o f).1.aq/\(scan l n o f).1.aq<=16
 |0,o,none,_,_,e=>by simp [scan] at e
 |0,o,some y,_,hf,_=>hf y rfl
 |n+1,o,f,ho,hf,e=>by
  unfold scan at e ⊢;split at e
  .rename_i h0;rw [XAE h0];exact Dw h n (o+1) f qd hf e
  .rename_i h0;rw [XAD h0];have hg:=Yx h (o:=o) qd h0;split at e
   .rename_i h1;rw [XAE h1];exact hg
   .rename_i h1;rw [XAD h1];refine Dw h n (o+1) _ qd (λy hy=>?_) e;cases f with
    |none=>injection hy with hy;subst hy;exact hg
    |some x=>injection hy with hy;subst hy;exact hf _ rfl
theorem Zr(s a:Int)(g:Bool)(w:World):Z 166 #[I s,I a,.bool g] w λe w'=>
  ∃(y:Lay)(er:Int),e=.returned (.tuple #[ey y,I er])/\(er=0->(0<=y.ord/\y.ord<=10)/\1<=y.aq/\y.aq<=16)/\(y,er)=so s a g/\Below w w w':=by
 cases h:wE s a with
 |false=>exact(Zs s a g h w).mono λe w' hr=>⟨_,_,hr.1,λh=>qck,(by unfold so;rw [h];rfl),hr.2⟩
 |true=>
  obtain⟨h1,h2,h3⟩:=(KK s a).1 h;have hal:m_ a=true:=(Bk a).2 h3;have hb:(bits .and .i64 a (a-1) !=0)=false:=by rw [FX qd qd,hal];rfl
  have hst:1<=fT (nS s a g) (max 8 a):=by have h5:=wU (n:=nS s a g) (m:=max 8 a) qd;have h6:=wU (n:=8) (m:=a) qd;unfold nS at h5 ⊢;split at h5<;>rename_i hg<;>simp only [hg]<;>first|(simp at*;omega)|omega
  exact(Zt s a _ _ g h1 h2 qd qd hb R R _ (XAA R) w).mono λe w' hr=>⟨_,_,hr.1,Dw (l:=⟨s,a,fT (nS s a g) (max 8 a),DG a g,0,0,0⟩) hst 4 0 none qd (λy hy=>(by cases hy)),(by unfold so Gx;rw [h];rfl),hr.2⟩
section
variable{A:KA}{M M1:KS}{w w':World}{i k:Nat}{x:Cc}
structure Sd(M M':KS):Prop where
 fr:M'.fr=M.fr
 hs:M'.hs=M.hs
 ds:M'.ds=M.ds
 gr:M'.gr=M.gr
 T:M'.T=M.T
 tn:M'.tn=M.tn
 G:M'.G=M.G
 s:M'.s=M.s
 cs:M.cs.length<=M'.cs.length
theorem Sd.refl(M:KS):Sd M M:=⟨R,R,R,R,R,R,R,R,XAB _⟩
def A9(C n:Nat)(sp:Sp)(x:Cc):Prop:=x.live=true/\x.refs=1/\x.sp=sp/\x.ly=(so sp.s sp.a (bits .and .i64 sp.f 2 !=0)).1/\x.ch=⟨C,x.ly.aq.toNat,1000003*(n+1)⟩/\x.Q=(λ_=>none)/\x.ws=List.replicate x.ch.words 0/\x.n=0
def Ob(A:KA)(M:KS)(sp:Sp)(w:World)(e:Ending)(w':World):Prop:=
 ∃(r er:Int)(M':KS),e=.returned (.tuple #[I r,I er])/\KM A w' M'/\KF [] M.cl M'.cl w w'/\Sd M M'/\(er=0->0<=r/\r<M'.cs.length)/\
  (M.cs.length<8->(so sp.s sp.a (bits .and .i64 sp.f 2 !=0)).2=0->er=0/\∃x,M'.cs=M.cs++ [x]/\A9 A.C M.cs.length sp x)
theorem WG:(prog.info? 196).map (λi=>(i.zero,i.size,i.bytes))=some (some (.pointer none),1,8):=qh
theorem KM.Ro(h:KM A w M){n:Nat}(hn:M.cs.length=n)(h8:n<8){z w5:World}{cb pg wb mb g tm o g3 cap3 key:Nat}{s a f sz al st off od wa:Int}{ob:Obj}(hz:Below w w z)
 (hc:ak z cb 195 #[I s,I a,I f,I 1,.bool true,I 0,.slice (pg,0) 32 32,I sz,I al,I st,I off,I od,I o,I wa,.pointer (wb,0)])
 (hp:aG z pg 3 (List.replicate 32 (I (-1))))(hcr:aP z wb mb g tm ⟨A.C,o,key⟩ (List.replicate (⟨A.C,o,key⟩:Ch).words 0) 0 (λ_=>none) 0)
 (l1:w.heap.size<=cb)(l2:w.heap.size<=pg)(l3:w.heap.size<=wb)(l4:w.heap.size<=mb)(l5:w.heap.size<=g)(l6:w.heap.size<=tm)(n1:cb≠pg)(n2:∀q,q=cb\/q=pg->q≠wb/\q≠mb/\q≠g/\q≠tm)(hod:0<=od/\od<=10)
 (ho3:w5.ownsRow 0 196 1 (.slice (g3,0) (n+1) cap3) (n+1) (M.cs.map jo++ [.pointer (cb,0)]))(hg3:(z.alloc ob).grownBy w5 M.cv.ownBlock)(hq3:some g3=M.cv.ownBlock\/g3=(z.alloc ob).heap.size):
  ∃M' x,KM A (w5.setCell (A.kb,27) (.slice (g3,0) (n+1) cap3)) M'/\KF [] M.cl M'.cl w (w5.setCell (A.kb,27) (.slice (g3,0) (n+1) cap3))/\Sd M M'/\M'.cs=M.cs++ [x]/\x.live=true/\x.refs=1/\x.sp=⟨s,a,f⟩/\x.ly=⟨sz,al,st,off,od,o,wa⟩/\x.ch=⟨A.C,o,key⟩/\x.Q=(λ_=>none)/\x.ws=List.replicate x.ch.words 0/\x.n=0:=by
 subst hn;have hzs:=hz.size;have hcs:=h.cs.1;have hkl:=h.k.1.lt;have far:∀q,q<z.heap.size->M.cv.ownBlock≠some q->w5.heap[q]? =z.heap[q]? :=λq hl hne=>(hg3.block q qj λe=>hne e.symm).trans (XAX z _ _ hl);have hown:∀q,M.cv.ownBlock=some q->q<w.heap.size/\M.cl q=8:=hcs.2;have hm:Md M.cl [1,8] w w5:=((Md.of_below M.cl [1,8] hz).alloc ob).grown hg3 λg' hg' _=>by rw [(hown g' hg').2];simp
 have hm2:=hm.set (g:=A.kb) (λ_=>by rw [h.k.2];simp) 27 (.slice (g3,0) (M.cs.length+1) cap3);have hkz:=h.k.1.below hz;have hk5:ak w5 A.kb 58 (kR A M):=(far A.kb qd (λe=>by have:=(hown _ e).2;rw [h.k.2] at this;cases this)).trans hkz;have hkb:=hk5.aJ 27 (.slice (some ⟨g3,0,none⟩) (M.cs.length+1) cap3);have hgk:g3≠A.kb:=λe=>own_ne ho3 hk5 qf qjp;have keep:∀q,w.heap.size<=q->q<z.heap.size->(w5.setCell (A.kb,27) (.slice (g3,0) (M.cs.length+1) cap3)).heap[q]? =z.heap[q]? :=λq hl hq=>(XAN w5 _ _ q (by show q≠A.kb;omega)).trans (far q hq λe=>by have:=(hown q e).1;omega);have hcl:=hc.lt;have hpl:=hp.lt;obtain⟨c1,c2,c3,c4⟩:=hcr.bj;obtain⟨na,nb,nc⟩:=hcr.nb;obtain⟨nd,ne⟩:=hcr.nt;have nf:=hcr.mw.mem.ne;obtain⟨p1,p2,p3,p4⟩:=n2 cb (.inl R);obtain⟨q1,q2,q3,q4⟩:=n2 pg (.inr R);obtain⟨F,hF⟩:∃F:Nat->Nat,F=λb=>if b=cb then 100+10*M.cs.length else if b=pg then 100+10*M.cs.length+1 else if b=wb then 100+10*M.cs.length+2 else if b=mb then 100+10*M.cs.length+3 else if b=g then 100+10*M.cs.length+4 else if b=tm then 100+10*M.cs.length+5 else 8:=⟨_,R⟩;have Jt:z.heap.size<=(w5.setCell (A.kb,27) (.slice (g3,0) (M.cs.length+1) cap3)).heap.size:=by have:=hg3.size;simp [World.setCell] at this ⊢;omega
 have up:∀q,w.heap.size<=q->q<z.heap.size->cd M.cl w (w5.setCell (A.kb,27) (.slice (g3,0) (M.cs.length+1) cap3)) F q=F q:=λq h1 h2=>kX h1 qd;have hR:Rws (M.cv.ownBlock.toList++ [A.kb]) z (w5.setCell (A.kb,27) (.slice (g3,0) (M.cs.length+1) cap3)):=⟨hm2.os.trans hz.os.symm,hm2.tape.trans hz.tape.symm,hm2.output.trans hz.output.symm,Jt,λq hq hn=>by
  simp at hn
  exact(XAN w5 _ _ q (by show q≠A.kb;exact hn.2)).trans (far q hq hn.1)⟩
 have hno:∀q,w.heap.size<=q->q∉M.cv.ownBlock.toList++ [A.kb]:=λq hq hm=>by
  simp at hm;rcases hm with e|e
  .have:=(hown q e).1;omega
  .omega
 obtain⟨k1,k2⟩:=h.cache (v2:=.slice (some ⟨g3,0,none⟩) (M.cs.length+1) cap3) (x:= { cb:=cb,sp:=⟨s,a,f⟩,refs:=1,live:=true,waits:=0,pg:=pg,zp:=32,P:=List.replicate 32 (-1),ly:=⟨sz,al,st,off,od,o,wa⟩,wb:=wb,mb:=mb,g:=g,tm:=tm,ch:=⟨A.C,o,key⟩,ws:=List.replicate (⟨A.C,o,key⟩:Ch).words 0,n:=0,Q:=λ_=>none,q:=0 }) h8 hm2 hkb
  (cM ho3 λg' hg'=>XAN w5 _ _ g' (by rw [<-(show g3=g' from qbg)];exact hgk)) (λg' hg'=>by
   have e:g3=g':=qbg
   subst e
   rcases hq3 with e1|e1
   .exact .inl e1.symm
   .simp at e1;exact .inr qd) (f:=F) (λg' hg' hl=>by
   have e:g3=g':=qbg
   subst e
   rcases hq3 with e1|e1
   .have:=(hown _ e1.symm).1;omega
   .simp at e1
    rw [hF]
    dsimp only
    rw [XAD qd,XAD qd,XAD qd,XAD qd,XAD qd,XAD qd])
  ⟨(keep cb l1 hcl).trans hc,by
   have:=hp.heap (keep pg l2 hpl)
   simpa using this,ql,λp hp=>by simp at hp;omega,hcr.keep hR (hno _ l3) (hno _ l4) (hno _ l5) (hno _ l6),R,hod,XAJ _,XAJ _,
   by show cd _ _ _ _ cb=_;rw [up cb l1 hcl,hF];exact XAE R,
   by show cd _ _ _ _ pg=_;rw [up pg l2 hpl,hF];dsimp only;rw [XAD n1.symm,XAE rfl],
   by show cd _ _ _ _ wb=_;rw [up wb l3 c1,hF];dsimp only;rw [XAD p1.symm,XAD q1.symm,XAE rfl],
   by show cd _ _ _ _ mb=_;rw [up mb l4 c2,hF];dsimp only;rw [XAD p2.symm,XAD q2.symm,XAD na.symm,XAE rfl],
   by show cd _ _ _ _ g=_;rw [up g l5 c3,hF];dsimp only;rw [XAD p3.symm,XAD q3.symm,XAD nb.symm,XAD nf.symm,XAE rfl],
   by show cd _ _ _ _ tm=_;rw [up tm l6 c4,hF];dsimp only;rw [XAD p4.symm,XAD q4.symm,XAD nc.symm,XAD nd,XAD ne,XAE rfl]⟩
 exact⟨_,_,k1,k2,⟨R,R,R,R,R,R,R,R,by show _<=(M.cs++ [_]).length;simp⟩,R,R,R,R,R,R,R,R,R⟩
theorem JY(h:KM A w M)(s a f:Int):Z 120 #[(A.kb,0),.agg #[I s,I a,I f]] w (Ob A M ⟨s,a,f⟩ w):=by
 obtain⟨B,cap,hcv,hcap⟩:=Own.slice h.cs.1;have k27:=h.rd.k27;rw [hcv] at k27;have a8:=h.rd.lt;have hz0:M.cl w.heap.size=0:=h.new _ (XAB _);obtain⟨n,hn⟩:=Xq M.cs.length;have Wg:n<=8:=by rw [<-hn];exact h.ok.cs
 rw [hn] at k27 hcap;have HC:=XAA h;have pZ:=XAA hcv;have HN:=XAA hn;have NL:=λW=>XAA (Zr s a (bits .and .i64 f 2 !=0) W);clear h hcv hn;by_cases h8:n=8
 .subst h8;go_enter func120,ntmps120;go_wp2
  go_ret2
  exact⟨0,5,M,R,HC.out.alloc _,KF.below [] _ ((XAC _ _).alloc (XAB _) _),Sd.refl M,λh=>qck,λh=>(by have:=HN.out;omega)⟩
 .have hb8:((n:Int)==8)=false:=by simp;omega
  go_enter func120,ntmps120;go_wp2_with (go_at_call 166;refine(NL _).out.mono ?_;rintro e w1 ⟨y,er,he,hg,hof,hb1⟩;obtain⟨sz,al,st,off,od,ob,wa⟩:=y;replace he:e=.returned (.tuple #[.agg #[I sz,I al,I st,I off,I od,I ob,I wa],I er]):=he;subst he;have HG:=XAA hg;have HO:=XAA hof;have HB1:=XAA hb1;clear hg hof hb1;(rcases (by cases(er !=0)<;>simp:(er !=0)=true\/(er !=0)=false) with her|her))
  .have hbz:Below w w (w1.alloc (.cells #[I sz,I al,I st,I off,I od,I ob,I wa] 190)):=(((XAC _ w).alloc (XAB _) (.cells #[I s,I a,I f] 188)).trans (HB1.out.mono ql)).alloc (by have:=HB1.out.size;simp at this;omega) _
   go_ret2
   exact⟨0,er,M,R,HC.out.below hbz,KF.below [] _ hbz,Sd.refl M,λh=>(by subst h;cases her),λ_ h=>(by have:=HO.out;rw [<-this] at h;subst h;cases her)⟩
  .have he0:er=0:=by simpa using her
   subst he0;obtain⟨⟨g1,g2⟩,g3,g4⟩:=HG.out rfl;obtain⟨o,rfl⟩:∃o:Nat,ob=o:=⟨ob.toNat,qd⟩;have hs1:=HB1.out.size;simp at hs1;refine bg (λw2 hw2=>?_);have HB2:Hid (Below w w w2):=XAA (by rw [hw2];exact(((XAC _ w).alloc (XAB _) (.cells #[I s,I a,I f] 188)).trans (HB1.out.mono ql)).alloc qd _);have HS2:Hid (ak w2 w.heap.size 188 #[I s,I a,I f]):=XAA (by rw [hw2];exact((ak.new w 188 #[I s,I a,I f]).below HB1.out).alloc _);have HL2:Hid (ak w2 w1.heap.size 190 #[I sz,I al,I st,I off,I od,I o,I wa]):=XAA (by rw [hw2];exact ak.new w1 _ _);obtain⟨p1,hp1⟩:=Xq w1.heap.size;rw [hp1] at HL2 hs1 ⊢;have aW:=XAA (HC.out.below HB2.out);clear hw2 her hp1 HB1 k27;have k0:=aW.out.rd.k0;have y5:w2.cell? (p1,5)=I o:=HL2.out.cell 5;have hkey:IntKind.u64.wrap (1000003*IntKind.u64.wrap (IntKind.i64.wrap ((n:Int)+1)))=((1000003*(n+1):Nat):Int):=by rw [XAM _ qd,XC0,XC0];omega
   have MX:Hid (Z 167 #[.agg #[nV A.C,I 32,I o,I 1,I 2,J (IntKind.u64.wrap (1000003*IntKind.u64.wrap (IntKind.i64.wrap ((n:Int)+1))))]] w2.drew (ED w2.drew ⟨A.C,o,1000003*(n+1)⟩)):=XAA (by
    rw [hkey]
    exact Sz w2.drew ⟨A.C,o,1000003*(n+1)⟩ ⟨HC.out.ok.c1,HC.out.ok.c8,by show 1<=o;omega,by show o<=16;omega,by show 1000003*(n+1)<18446744073709551616;omega⟩)
   clear hkey;go_region_held3 (λw'=>w'.cell? (A.kb,0)=some (nV A.C)/\w'.cell? (p1,5)=I o) (exact⟨qm,qm⟩) (first|(go_at_call 167;refine MX.out.mono ?_;rintro e w3 ⟨wb,mb,g,tm,rfl,hcr,hwb,hmb,hgb,C0,hb3⟩;have HB3:=XAA (show Below w2 w2 w3 from(XAC _ w2).drew.trans hb3);have e_:=XAA (And.intro hcr (And.intro hwb (And.intro hmb (And.intro hgb C0))));have k0':=(aW.out.below HB3.out).rd.k0;have y5':w3.cell? (p1,5)=I o:=(HL2.out.below HB3.out).cell 5;clear hcr hwb hmb hgb C0 hb3));clear k0 y5 k0' y5';generalize IntKind.u64.wrap (1000003*IntKind.u64.wrap (IntKind.i64.wrap ((n:Int)+1)))=kk;have hsb:=(HS2.out.below HB3.out);have hlb:=(HL2.out.below HB3.out);have z0:=hsb.cell 0;have z1:=hsb.cell 1;have z2:=hsb.cell 2;have x0:=hlb.cell 0;have x1:=hlb.cell 1;have x2:=hlb.cell 2;have x3:=hlb.cell 3;have x4:=hlb.cell 4;have x5:=hlb.cell 5;have x6:=hlb.cell 6;have slt:=hsb.lt;have pI:=hlb.lt;clear hsb hlb;have Fh:=XAA (aaD (w3.alloc (.cells #[I (-1)] 3)).drew w3.heap.size 0 1 (-1) (fs ((ak.new w3 3 #[I (-1)]).cell 0)));go_wp2;apply kJ (A:=λcb pg z=>ak z cb 195 #[I s,I a,I f,I 1,.bool true,I 0,.slice (some ⟨pg,0,none⟩) 32 32,I sz,I al,I st,I off,I od,I o,I wa,.pointer (some ⟨wb,0,none⟩)]/\aG z pg 3 (List.replicate 32 (I (-1)))/\Below w3 w3 z/\w3.heap.size<=cb/\w3.heap.size<=pg/\cb≠pg)
   .intro hnext;go_region_with (go_at_call 168;refine Fh.out.mono ?_;rintro e w4 ⟨rfl,hrow,hb4⟩;have hq:Below w3 w3 w4:=(((XAC _ w3).alloc (XAB _) _).drew).trans (hb4.mono ql);have z0':=(hq.cell (p:=⟨w.heap.size,0,none⟩) slt).trans z0;have z1':=(hq.cell (p:=⟨w.heap.size,1,none⟩) slt).trans z1;have z2':=(hq.cell (p:=⟨w.heap.size,2,none⟩) slt).trans z2;have Ej:=(hq.cell (p:=⟨p1,0,none⟩) pI).trans x0;have x1':=(hq.cell (p:=⟨p1,1,none⟩) pI).trans x1;have x2':=(hq.cell (p:=⟨p1,2,none⟩) pI).trans x2;have x3':=(hq.cell (p:=⟨p1,3,none⟩) pI).trans x3;have x4':=(hq.cell (p:=⟨p1,4,none⟩) pI).trans x4;have x5':=(hq.cell (p:=⟨p1,5,none⟩) pI).trans x5;have x6':=(hq.cell (p:=⟨p1,6,none⟩) pI).trans x6);all_goals
     have hB:=(ak.new w4 195 #[I s,I a,I f,I 1,.bool true,I 0,.slice (some ⟨w3.heap.size+1,0,none⟩) 32 32,I sz,I al,I st,I off,I od,I o,I wa,.pointer (some ⟨wb,0,none⟩)]);have hR:aG w4 (w3.heap.size+1) 3 (List.replicate 32 (I (-1))):=by have:=hrow;rw [show(w3.alloc (.cells #[I (-1)] 3)).drew.heap.size=w3.heap.size+1 from XAT w3 _] at this;exact this
     have hl4:=hR.lt;have hR2:=hR.heap (XAX w4 (.cells #[I s,I a,I f,I 1,.bool true,I 0,.slice (some ⟨w3.heap.size+1,0,none⟩) 32 32,I sz,I al,I st,I off,I od,I o,I wa,.pointer (some ⟨wb,0,none⟩)] 195) _ hl4);have hZ:Below w3 w3 (w4.alloc (.cells #[I s,I a,I f,I 1,.bool true,I 0,.slice (w3.heap.size+1,0) 32 32,I sz,I al,I st,I off,I od,I o,I wa,.pointer (wb,0)] 195)):=hq.alloc hq.size _;have hs4:=hq.size;obtain⟨u,hu⟩:=Xq (w3.heap.size+1);obtain⟨cb,hcb⟩:=Xq w4.heap.size;rw [hu] at hB hR2 hZ hl4 ⊢;rw [hcb] at hB hl4 hs4 ⊢;clear hrow hb4 hq hR z0' z1' z2' Ej x1' x2' x3' x4' x5' x6';generalize w4.alloc (.cells #[I s,I a,I f,I 1,.bool true,I 0,.slice (u,0) 32 32,I sz,I al,I st,I off,I od,I o,I wa,.pointer (wb,0)] 195)=z at hB hR2 hZ ⊢;exact hnext cb u z ⟨hB,hR2,hZ,qd,qd,qd⟩
   .rintro cb pg z ⟨hc,hp,hb,g5,g6,hne⟩;have hw3:=HB3.out.size;have hw2:=HB2.out.size;have jw:=XAA (HB2.out.trans ((HB3.out.mono hw2).trans (hb.mono qd)));have HZ:=XAA (HC.out.below jw.out);have k27:z.cell? (A.kb,27)=some (.slice B n cap):=HZ.out.rd.k27.trans (XAK some (pZ.out.trans (by rw [HN.out])));have Dl:=HZ.out.rd.lt;have lL:=HZ.out.rd.frz 27;have fH:Hid (∀ob:Obj,(z.alloc ob).ownsRow 0 196 1 (.slice B n cap) n (M.cs.map jo)):=XAA λob=>by
     have:=(Own.below HZ.out.cs.1 ((XAC _ z).alloc (XAB _) ob)).1;rw [pZ.out,HN.out] at this;exact this
    have HP:=XAA (And.intro hc (And.intro hp (And.intro hb (And.intro g5 (And.intro g6 hne)))));have oB:Hid (∀(ob:Obj)(w5:World),(z.alloc ob).grownBy w5 (Value.slice B n cap).ownBlock->w5.heap[A.kb]? =z.heap[A.kb]?):=XAA λob w5 hg=>(hg.block A.kb qj λe=>by
     have e':M.cv.ownBlock=some A.kb:=by rw [pZ.out,HN.out];exact e.symm
     have h1:=(HC.out.cs.1.2 _ e').2
     rw [HC.out.k.2] at h1
     cases h1).trans (XAX z _ _ Dl)
    clear hc hp hb Fh slt pI z0 z1 z2 x0 x1 x2 x3 x4 x5 x6;simp [Act.put];go_wp2_with (at_builtin;refine iW WG R qf underlying53 qu _ _ qu _ n (M.cs.map jo) qu (fH.out _) (some ⟨z.heap.size,0,none⟩) 1 1 [.pointer (some ⟨cb,0,none⟩)] qu (Reads.lit z 196 #[.pointer (some ⟨cb,0,none⟩)] 1 1 R) qk qd qf qd ?_;intro g7 adx w5 eU vQ hq7;have hfn:=oB.out _ w5 vQ;have hy:=(XAP (w:=z) (a:=⟨A.kb,27,none⟩) hfn).trans k27;have hzz:=(XAh (w:=z) (a:=⟨A.kb,27,none⟩) hfn).trans lL;clear hfn)
    go_ret2
    obtain⟨hc,hp,hb,-,-,-⟩:=HP.out;obtain⟨hcr,hwb,hmb,hgb,C0⟩:=e_.out;have hd2:w2.drew.heap.size=w2.heap.size:=rfl;obtain⟨t1,t2,t3,t4⟩:=hcr.bj;obtain⟨M',x,q1,q2,q3,q4,q5,q6,q7,q8,q9,q10,q11,q12⟩:=HC.out.Ro HN.out qd jw.out hc hp (hcr.below hb) qd qd qd qd qd qd hne (λq hq=>by rcases hq with rfl|rfl<;>omega) ⟨g1,g2⟩ eU (by rw [pZ.out,HN.out];exact vQ) (by rw [pZ.out,HN.out];exact hq7);refine⟨n,0,M',rfl,q1,q2,q3,λ_=>⟨qd,by rw [q4,XAZ,HN.out];show(n:Int)<((n+1:Nat):Int);omega⟩,λ_ _=>⟨R,x,q4,q5,q6,q7,?_,?_,q10,q11,q12⟩⟩
    .rw [q8];exact XAK Prod.fst HO.out
    .rw [q9,q8,HN.out];rfl
end
section
open Go.Shelf
section
variable{A:KA}{M:KS}{w w':World}{i k q:Nat}
theorem XN(nc nh tn:Nat)(G:Nat->Gp)(a:Ac)(ha:dn nc nh tn G a)(i:Int)(q:Nat)(w:World)(hq:w.cell? (q,0)=I i):Z 183 #[aF a,.pointer (q,0)] w λe w'=>e=.returned (.bool (mT a i))/\Below w w w':=by
 have HW:=λw=>XAA (Yu nc nh tn G a ha i w);clear ha;go_enter func183,ntmps183;go_wp2_with (go_at_call 184;refine(HW _).out.mono ?_;rintro e w1 ⟨rfl,hb⟩);go_ret;exact⟨R,hb⟩
def N4(w:World)(l:List Ac)(i:Int)(e:Ending)(w':World):Prop:=∃r:Int,e=.returned (I r)/\decide (0<=r)=l.any (mT · i)/\Below w w w'
theorem WU(nc nh tn:Nat)(G:Nat->Gp)(l:List Ac)(hl:∀a∈l,dn nc nh tn G a)(i:Int)(q:Nat)(w:World)(hq:w.cell? (q,0)=I i)(gV:q<w.heap.size)(B:Option Addr)(n c:Nat)(hn:l.length=n)(hn2:n<=1000000)(hB:Row w B (l.map aF)):
  Z 219 #[.slice B n c,.func (.func 183) #[] #[(q,0)]] w (N4 w l i):=by
 have HL:=XAA hl;have HB:=XAA hB;have HN:=XAA hn;have HQ:=XAA hq;clear hl hB hn hq;go_enter func219,ntmps219;go_wp2;go_loopw [5,8] (λ_ z wr=>∃j:Nat,z=I j/\j<=n/\(∀a∈l.take j,mT a i=false)/\Below w w wr) (λ_ z _=>n-(intOf z).toNat)
 case atStart=>exact⟨0,R,XAJ _,λa ha=>by simp at ha,XAC _ _⟩
 case round=>
  obtain⟨j,rfl,hjn,hf,hb⟩:=hrel;have HF:=XAA hf;clear hf;by_cases hj:j<n
  .obtain⟨a,ha⟩:∃a,l[j]? =some a:=⟨_,XAO (by rw [HN.out];exact hj)⟩;obtain⟨g,off,rfl,hg,hcx⟩:=(HB.out.below hb).at_ (k:=j) (by rw [XAY,HN.out];exact hj);have ex:(l.map aF)[j]'(by rw [XAY,HN.out];exact hj)=aF a:=by
    rw [XCj];congr 1;exact XAl ((XAO (by rw [HN.out];exact hj)).symm.trans ha)
   rw [ex] at hcx;have HA:=XAA ha;have HP:=XAA (XN nc nh tn G a (HL.out a (XAi ha)) i q wr ((hb.cell (p:=⟨q,0,none⟩) gV).trans HQ.out));have b1:(j:Int)<(n:Int):=qd
   clear ex ha;cases hw:mT a i with
   |true=>
    rw [hw] at HP;have HW:=XAA hw;clear hw;go_wp2_with (go_at_call 183;refine HP.out.mono ?_;rintro e w1 ⟨rfl,hb1⟩;have HB1:=XAA hb1;clear hb1);go_ret;exact⟨_,R,by rw [XAR qd];exact(XCI.2 ⟨a,XAi HA.out,HW.out⟩).symm,hb.trans (HB1.out.mono hb.size)⟩
   |false=>
    rw [hw] at HP;have HW:=XAA hw;clear hw;go_wp2_with (go_at_call 183;refine HP.out.mono ?_;rintro e w1 ⟨rfl,hb1⟩;have HB1:=XAA hb1;clear hb1);go_roundw
    case rel=>
     refine⟨j+1,qbf,hj,λa' ha'=>?_,hb.trans (HB1.out.mono hb.size)⟩;rw [List.take_add_one,HA.out] at ha';rcases XAe.1 ha' with h1|h1
     .exact HF.out a' h1
     .simp at h1;subst h1;exact HW.out
    case measure=>simp [intOf];omega
  .obtain rfl:j=n:=by omega
   go_wp2;go_ret;refine⟨_,R,?_,hb⟩;rw [XAS qf];refine(List.any_eq_false.2 λa ha=>?_).symm;rw [HF.out a (by rw [XCA (by rw [HN.out];exact XAB _)];exact ha)];decide
theorem Sb(nc nh tn:Nat)(G:Nat->Gp)(l:List Ac)(hl:∀a∈l,dn nc nh tn G a)(i:Int)(q:Nat)(w:World)(hq:w.cell? (q,0)=I i)(gV:q<w.heap.size)(B:Option Addr)(n c:Nat)(hn:l.length=n)(hn2:n<=1000000)(hB:Row w B (l.map aF)):
  Z 182 #[.slice B n c,.func (.func 183) #[] #[(q,0)]] w λe w'=>e=.returned (.bool (l.any (mT · i)))/\Below w w w':=by
 have HC:=XAA (WU nc nh tn G l hl i q w hq gV B n c hn hn2 hB);clear hl hq gV hn hn2 hB;go_enter func182,ntmps182;go_wp2_with (go_at_call 219;refine HC.out.mono ?_;rintro e w1 ⟨r,rfl,hd,hb⟩;have HD:=XAA hd;clear hd);go_ret;exact⟨by rw [<-HD.out];rfl,hb⟩
theorem XM(h:KM A w M)(hk:k<A.C)(hs:M.s<=30000)(ci:Int)(q:Nat)(W:World)(hW:Below w w W)(hq:w.cell? (q,0)=I ci)(gV:q<w.heap.size):Z 181 #[.agg (bf (M.fr k)).toArray,.pointer (q,0)] W λe w'=>e=.returned (.bool ((M.fr k).acts.any (mT · ci)))/\Below W W w':=by
 have hKW:=h.below hW;obtain⟨B,c,hav,-,hr,-⟩:=(hKW.fa k hk).1;have hal:=hKW.ok.al k hk;have hac:=hKW.ok.ac k hk;generalize M.fr k=f at hav hr hal hac ⊢;obtain⟨next,aM,busy,av,acts,ai,aq,pK,pA,pB,pC,hv,im,e⟩:=f;dsimp only at hav hr hal hac ⊢;rw [XAY] at hav;subst hav;have Jl:=(hW.cell (p:=⟨q,0,none⟩) gV).trans hq;have Wp:=XAH gV hW.size;have HC:=XAA (λ(o:Obj)=>Sb M.cs.length M.hs.length M.tn M.G acts hac ci q (W.alloc o) ((XA9 W o ⟨q,0,none⟩ Wp).trans Jl) qj B acts.length c R qd (hr.alloc o));clear h hKW hr hal hac hq hW Jl;show Z 181 #[.agg #[nV next,I aM,.bool busy,.slice B acts.length c,I ai,I aq,I pK,I pA,I pB,I pC,hv,I e],.pointer (some ⟨q,0,none⟩)] W _;obtain⟨n,hn⟩:=Xq acts.length;rw [hn] at HC ⊢;clear hn;go_enter func181,ntmps181;go_wp2_with (go_at_call 182;(refine(HC.out _).mono ?_);rintro e' w1 ⟨rfl,hb⟩;have HB:=XAA hb;clear hb);go_ret;exact⟨R,((XAC _ W).alloc (XAB _) _).trans (HB.out.mono ql)⟩
structure Pr(C:Nat) where
 i:Nat
 h:i<C
theorem Uj(h:KM A w M)(hs:M.s<=30000)(ci:Int)(q:Nat)(hq:w.cell? (q,0)=I ci)(gV:q<w.heap.size):Z 180 #[.slice (A.fb,0) A.C A.C,.func (.func 181) #[] #[(q,0)]] w λe w'=>(∃b,e=.returned (.bool b))/\Below w w w':=by
 have hc1:=h.ok.c1
 haveI:Inhabited (Pr A.C):=⟨⟨0,qd⟩⟩
 have eg:∀args w,(callFunc 181 args).run prog w=.ok (.enter 181 args) w:=enters_of func181 qh rfl;obtain⟨L,hL,CB⟩:∃L:List (Pr A.C),L.length=A.C/\∀j,j<A.C->∀d:Pr A.C,(L.getD j d).i=j:=by refine⟨(List.range A.C).attach.map λx=>⟨x.1,XAu.1 x.2⟩,ql,λj hj d=>?_⟩;rw [XBA,XAO (by simp;exact hj)];simp
 have hcon:=AnyQ.slices_ContainsFunc acB 12 isAgg159 sizeOf159 (λx:Pr A.C=>bf (M.fr x.i)) (λ_=>rfl) (λx=>(M.fr x.i).acts.any (mT · ci)) 181 #[.pointer (some ⟨q,0,none⟩)] eg A.fb 0 A.C A.C L w
  (λW x hW=>(XM h x.h hs ci q W hW hq gV).mono λe w' ⟨h1,h2⟩=>⟨h1,hW.trans (h2.mono hW.size)⟩) qd (by have:=h.ok.c8;omega) h.fr.1.lt (λj hj i v hi=>by
   have hj':j<A.C:=qd
   have e1:(L[j]!).i=j:=by
    have:=CB j hj' default
    rw [XBA,XAO hj] at this
    rw [getElem!_pos L j hj]
    exact this
   rw [e1] at hi
   have V8:i<12:=by
    rcases XAc i 12 with h1|h1
    .exact h1
    .rw [XAd (by rw [Hy];exact h1)] at hi;cases hi
   rw [XAV]
   exact(h.jF hj' i V8).trans hi)
 change Z 180 _ _ _ at hcon;exact hcon.mono λe w' ⟨h1,h2⟩=>⟨⟨_,h1⟩,h2⟩
theorem Jg(a:Option Addr)(c:Nat)(fv:Value)(w:World):Z 174 #[.slice a 0 c,fv] w λe w'=>e=.returned (I (-1))/\w'=w:=by
 go_enter func174,ntmps174;go_wp2;go_loopw [5,8] (λ_ i wr=>i=I 0/\wr=w) (λ_ _ _=>0)
 case atStart=>exact⟨R,R⟩
 case round=>
  obtain⟨rfl,rfl⟩:=hrel;go_wp2;go_ret;exact⟨R,R⟩
theorem Wi(a:Option Addr)(c:Nat)(fv:Value)(w:World):Z 178 #[.slice a 0 c,fv] w λe w'=>e=.returned (.bool false)/\w'=w:=by
 go_enter func178,ntmps178;go_wp2_with (go_at_call 174;refine Xr (Jg _ _ _ _) ?_);go_ret;exact⟨R,R⟩
instance:Inhabited Hn:=⟨⟨0,0,0,0,false⟩⟩
theorem Ji(h:KM A w M){gh cap:Nat}(hv:M.hv=.slice (gh,0) M.hs.length cap):∀j,j<M.hs.length->∀i v,(cB M.hs[j]!)[i]? =some v->w.cell? (gh,0+j*5+i)=some v:=λj hj i v hi=>by
 have hr:=h.hat (n:=j) (y:=M.hs[j]!) hv (by rw [getElem!_pos M.hs j hj];exact XAO hj);rw [XAV];rcases i with _|_|_|_|_|i
 .exact hr.h0.trans hi
 .exact hr.h1.trans hi
 .exact hr.h2.trans hi
 .exact hr.h3.trans hi
 .exact hr.h4.trans hi
 .rw [XAd (by simp [cB])] at hi;cases hi
theorem Wh(h:KM A w M)(hs:M.s<=30000)(ci:Int)(q:Nat)(hq:w.cell? (q,0)=I ci)(gV:q<w.heap.size)(B:Option Addr)(c:Nat)(hv:M.hv=.slice B M.hs.length c):Z 178 #[.slice B M.hs.length c,.func (.func 179) #[] #[(q,0)]] w λe w'=>(∃b,e=.returned (.bool b))/\Below w w w':=by
 rcases XAr M.hs.length with h0|hp
 .rw [h0];exact(Wi _ _ _ _).mono λe w' ⟨h1,h2⟩=>⟨⟨_,h1⟩,qdq⟩
 .obtain⟨gh,cap,pw,-,-⟩:=h.hav hp;rw [hv] at pw;injection pw with e1 e2 e3;subst e1;have eg:∀args w,(callFunc 179 args).run prog w=.ok (.enter 179 args) w:=enters_of func179 qh rfl;have hcon:=AnyQ.slices_ContainsFunc acA 5 isAgg68 sizeOf68 cB (λ_=>rfl) (λy=>y.out && ((y.ca:Int)==ci)) 179 #[.pointer (some ⟨q,0,none⟩)] eg gh 0 M.hs.length c M.hs w
   (λW y hW=>(XL y ci q W (XAH gV hW.size) ((hW.cell (p:=⟨q,0,none⟩) gV).trans hq)).mono λe w' ⟨h1,h2⟩=>⟨h1,hW.trans (h2.mono hW.size)⟩) (XAB _) qja qcl (Ji h hv)
  change Z 178 _ _ _ at hcon;exact hcon.mono λe w' ⟨h1,h2⟩=>⟨⟨_,h1⟩,h2⟩
theorem XK(h:KM A w M)(hs:M.s<=30000)(ci:Int):Z 132 #[(A.kb,0),I ci] w λe w'=>(∃b,e=.returned (.bool b))/\Below w w w':=by
 obtain⟨B,c,hv,-⟩:=Own.slice (show Own _ 9 w 68 5 M.hv M.hs.length (M.hs.flatMap cB) from h.hs);have k28:=h.rd.k28;rw [hv] at k28;have k29:=h.rd.k29;have a8:=h.rd.lt;have HC:=XAA h;have HV:=XAA hv;have HA:=XAA (Wh (h.alloc (.cells #[I ci] 3)) hs ci w.heap.size ((ak.new w 3 #[I ci]).cell 0) ql B c hv);clear h hv;obtain⟨n,hn⟩:=Xq M.hs.length;rw [hn] at k28 HA;clear hn;go_enter func132,ntmps132;go_wp2_with (first|(go_at_call 178;(refine HA.out.mono ?_);rintro e w1 ⟨⟨b,rfl⟩,hb1⟩;have hb1':=(((XAC _ w).alloc (XAB _) (.cells #[I ci] 3)).trans (hb1.mono ql):Below w w w1);have HB1:=XAA hb1';have adI:=(HC.out.below hb1').rd.k29;have HF:=XAA (Uj (HC.out.below hb1') hs ci w.heap.size ((hb1.cell (p:=⟨w.heap.size,0,none⟩) ql).trans ((ak.new w 3 #[I ci]).cell 0)) (by have:=hb1.size;simp at this;omega));clear hb1 hb1';cases b)|(go_at_call 180;(refine HF.out.mono ?_);rintro e w2 ⟨⟨b,rfl⟩,hb2⟩;have HB2:=XAA hb2;clear hb2))
 .go_ret;exact⟨⟨_,R⟩,HB1.out.trans (HB2.out.mono HB1.out.size)⟩
 .go_ret;exact⟨⟨_,R⟩,HB1.out⟩
end
end
section
open Go.Shelf
section
variable{A:KA}{M M1:KS}{w w':World}{i k:Nat}{x:Cc}
def zY(x:Cc)(s a f:Int):Bool:=x.live && (x.sp.s==s && (x.sp.a==a && x.sp.f==f))
theorem Yd(x:Cc)(s a f:Int)(q:Nat)(w:World)(hq:w.cell? (q,0)=I s)(hq1:w.cell? (q,1)=I a)(hq2:w.cell? (q,2)=I f)(hx:Ex x w):Z 172 #[jo x,.pointer (q,0)] w λe w'=>e=.returned (.bool (zY x s a f))/\∃q,w'=w.drewN q:=by
 have c0:=hx.c0;have c1:=hx.c1;have c2:=hx.c2;have c4:=hx.c4;clear hx;unfold zY;cases hl:x.live with
 |false=>
  rw [hl] at c4;clear hl;go_enter func172,ntmps172;go_wp2;go_region;go_wp2;go_ret;exact⟨R,1,R⟩
 |true=>
  rw [hl] at c4;clear hl;by_cases h1:x.sp.s=s<;>by_cases h2:x.sp.a=a<;>by_cases h3:x.sp.f=f;all_goals
   go_enter func172,ntmps172;go_wp2;go_region;go_wp2;go_ret;exact⟨by simp [h1,h2,h3],1,R⟩
theorem C6{α:Type}(p:α->α->Bool)(x:α):∀(zs:List α)(i:Nat),Lib.idxByFrom p x zs i= -1\/((i:Int)<=Lib.idxByFrom p x zs i/\Lib.idxByFrom p x zs i<((i+zs.length:Nat):Int))
 | [],i=>.inl rfl
 |y::zs,i=>by
  unfold Lib.idxByFrom;split
  .exact .inr ⟨XBG _,qj⟩
  .rcases C6 p x zs (i+1) with h|⟨h1,h2⟩
   .exact .inl h
   .exact .inr ⟨qd,by simp at h2 ⊢;omega⟩
def FD(n:Nat)(w:World)(e:Ending)(w':World):Prop:=∃r:Int,e=.returned (I r)/\(r= -1\/(0<=r/\r<n))/\Below w w w'
theorem Sa(h:KM A w M)(s a f:Int)(q:Nat)(hq:w.cell? (q,0)=I s)(hq1:w.cell? (q,1)=I a)(hq2:w.cell? (q,2)=I f)(CZ:q<w.heap.size)(B:Option Addr)(c:Nat)(hv:M.cv=.slice B M.cs.length c):
  Z 171 #[.slice B M.cs.length c,.func (.func 172) #[] #[(q,0)]] w (FD M.cs.length w):=by
 rcases XAr M.cs.length with h0|hp
 .rw [h0];have hcon:=AnyE.slices_IndexFunc_empty Lz B c (.func (.func 172) #[] #[.pointer (some ⟨q,0,none⟩)]) w;change Z 171 _ _ _ at hcon;exact hcon.mono λe w' ⟨h1,h2⟩=>⟨-1,h1,.inl R,qdq⟩
 .haveI:Inhabited (Pr M.cs.length):=⟨⟨0,hp⟩⟩
  have eg:∀args w,(callFunc 172 args).run prog w=.ok (.enter 172 args) w:=enters_of func172 qh rfl;obtain⟨L,hL,CB⟩:∃L:List (Pr M.cs.length),L.length=M.cs.length/\∀j,j<M.cs.length->∀d:Pr M.cs.length,(L.getD j d).i=j:=by refine⟨(List.range M.cs.length).attach.map λx=>⟨x.1,XAu.1 x.2⟩,ql,λj hj d=>?_⟩;rw [XBA,XAO (by simp;exact hj)];simp
  obtain⟨x0,hx0⟩:=lC (M:=M) hp;obtain⟨gc,cap,hcv,-,-,-⟩:=h.gK hx0;rw [hv] at hcv;injection hcv with e1 e2 e3;subst e1;have hcon:=AnyE.slices_IndexFunc Lz (λy:Pr M.cs.length=>jo (M.cs[y.i]'y.h)) (λy=>zY (M.cs[y.i]'y.h) s a f) 172 #[.pointer (some ⟨q,0,none⟩)] eg gc 0 M.cs.length c L w
   (λW y hW=>Yd _ s a f q W ((hW.cell (p:=⟨q,0,none⟩) CZ).trans hq) ((hW.cell (p:=⟨q,1,none⟩) CZ).trans hq1) ((hW.cell (p:=⟨q,2,none⟩) CZ).trans hq2) ((h.below hW).cw (i:=y.i) (XAO y.h))) qd (by have:=h.ok.cs;omega) (λj hj=>by
    have hj':j<M.cs.length:=qd
    have e1:(L[j]!).i=j:=by
     have:=CB j hj' default
     rw [XBA,XAO hj] at this
     rw [getElem!_pos L j hj]
     exact this
    obtain⟨gc',cap',hcv',-,hci,-⟩:=h.gK (i:=j) (XAO hj')
    rw [hv] at hcv'
    injection hcv' with e4 e5 e6
    injection e4 with e4
    injection e4 with e4 _ _
    have hget:∀(k:Nat)(hk:k<M.cs.length),k=j->M.cs[j]'hj'=M.cs[k]'hk:=λk hk e=>by subst e;rfl
    rw [XAV,e4,hci]
    exact XAK (λz=>some (jo z)) (hget _ (L[j]!).h e1))
  change Z 171 _ _ _ at hcon;refine hcon.mono λe w' ⟨h1,qq,h2⟩=>⟨_,h1,?_,by rw [h2];exact XCr (XAC _ _) qq⟩;rcases C6 (λ_ y=>zY (M.cs[(y:Pr M.cs.length).i]'y.h) s a f) default (L.take M.cs.length) 0 with h3|⟨h3,h4⟩
  .exact .inl h3
  .exact .inr ⟨h3,by rw [XBV] at h4;exact Int.lt_of_lt_of_le h4 qd⟩
def Oj(A:KA)(M:KS)(w:World)(e:Ending)(w':World):Prop:=
 ∃(r er:Int)(M':KS),e=.returned (.tuple #[I r,I er])/\KM A w' M'/\KF [] M.cl M'.cl w w'/\Sd M M'/\(er=0->0<=r/\r<M'.cs.length)
theorem Ya(h:KM A w M)(n:Int)(hn:1<=n):Z 121 #[(A.kb,0),I n] w (Oj A M w):=by
 have HC:=XAA h;have HN:=XAA hn;clear h;go_enter func121,ntmps121;go_wp2_with (go_at_call 169;refine(aaw n HN.out _).mono ?_;rintro e w1 ⟨c,er,rfl,hc,hb1⟩;have HB1:=XAA hb1;have sX:=XAA hc;clear hb1 hc;(rcases (by cases(er !=0)<;>simp:(er !=0)=true\/(er !=0)=false) with her|her))
 .go_ret2
  exact⟨_,er,M,R,HC.out.below HB1.out,KF.below [] _ HB1.out,Sd.refl M,λh=>(by subst h;cases her)⟩
 .have he0:er=0:=by simpa using her
  have rZ:=sX.out he0;clear her sX;go_upto_region 7 with(go_at_call 170;refine(ace c rZ _).mono ?_;rintro e w2 ⟨s,a,hs1,hs2,ha,rfl,hb2⟩;have HB2:=XAA (HB1.out.trans (hb2.mono HB1.out.size));clear hb2 ha)
  refine bg (λz hz=>?_);have jw:Hid (Below w w z):=XAA (by rw [hz];exact HB2.out.alloc HB2.out.size _);have HS:Hid (ak z w2.heap.size 188 #[I s,I a,I 4]):=XAA (by rw [hz];exact ak.new w2 _ _);obtain⟨p,hp⟩:=Xq w2.heap.size;rw [hp] at HS ⊢;have HZ:=XAA (HC.out.below jw.out);obtain⟨B,cap,hcv,-⟩:=Own.slice HZ.out.cs.1;have k27:=HZ.out.rd.k27;rw [hcv] at k27;have te:=XAA (Sa HZ.out s a 4 p (HS.out.cell 0) (HS.out.cell 1) (HS.out.cell 2) HS.out.lt B cap hcv);obtain⟨m,hm⟩:=Xq M.cs.length;rw [hm] at k27 te;have HM:=XAA hm;clear hz hp hcv hm;go_upto_region 8 with(go_at_call 171;(refine te.out.mono ?_);rintro e w5 ⟨r,rfl,hr,hb5⟩;have bV:=XAA hb5;have HR:=XAA hr;clear hb5 hr)
  have eQ:=XAA (jw.out.trans (bV.out.mono jw.out.size));have H5:=XAA (HC.out.below eQ.out);have hsb:=HS.out.below bV.out;have z0:=hsb.cell 0;have z1:=hsb.cell 1;have z2:=hsb.cell 2;clear k27 te hsb;by_cases hr0:0<=r
  .go_wp2
   go_ret2
   exact⟨r,0,M,R,H5.out,KF.below [] _ eQ.out,Sd.refl M,λ_=>⟨hr0,by rcases HR.out with h|h<;>first|omega|(rw [HM.out];exact h.2)⟩⟩
  .go_wp2_with (go_at_call 120;refine(JY H5.out s a 4).mono ?_;rintro e w6 ⟨r6,yx,M6,rfl,h6,k6,s6,l6,-⟩;have H6:=XAA (And.intro h6 (And.intro k6 (And.intro s6 l6)));clear h6 k6 s6 l6)
   go_ret2
   obtain⟨h6,k6,s6,l6⟩:=H6.out;exact⟨r6,yx,M6,R,h6,(KF.below [] M.cl eQ.out).trans k6,s6,l6⟩
end
end
section
variable{A:KA}{M M1:KS}{w w':World}{i k:Nat}{x:Cc}
def eV(x:Sp):List Value:= [I x.s,I x.a,I x.f]
theorem WN:(prog.info? 188).map (λi=>(i.zero,i.size,i.bytes))=some (some (.agg #[I 0,I 0,I 0]),3,24):=qh
theorem Ho{one:Sp} :∀(l:List Sp)(k:Nat),(fM one l k).2=true->(fM one l k).1<k+l.length
 | [],k,h=>qck
 |x::r,k,h=>by
  unfold fM at h ⊢;split
  .simp
  .rename_i hs;rw [XAD hs] at h;have:=Ho r (k+1) h;simp;omega
theorem aby{W:World}{rb n i:Nat}{L:Nat->Sp}(h:aG W rb 188 (bM n λj=>eV (L j)))(hi:i<n)(y:Sp):aG (((W.setCell (rb,i*3) (I y.s)).setCell (rb,i*3+1) (I y.a)).setCell (rb,i*3+2) (I y.f)) rb 188 (bM n λj=>eV (if j=i then y else L j)):=by
 have h1:=((h.set (i*3+0) (I y.s)).set (i*3+1) (I y.a)).set (i*3+2) (I y.f);rw [nJ (m:=3) (F:=λj=>eV (L j)) (G:=λj=>eV (if j=i then { L i with s:=y.s } else L j)) (λ_=>rfl) (λ_=>rfl) hi qf (by show eV (if i=i then _ else _)=_;rw [XAE rfl];rfl) (λj _ hj=>by show eV (if j=i then _ else _)=_;rw [XAD hj]),
  nJ (m:=3) (F:=λj=>eV (if j=i then { L i with s:=y.s } else L j)) (G:=λj=>eV (if j=i then { L i with s:=y.s,a:=y.a } else L j)) (λ_=>rfl) (λ_=>rfl) hi qf (by show eV (if i=i then _ else _)=(eV (if i=i then _ else _)).set 1 _;rw [XAE R,XAE rfl];rfl) (λj _ hj=>qds),
  nJ (m:=3) (F:=λj=>eV (if j=i then { L i with s:=y.s,a:=y.a } else L j)) (G:=λj=>eV (if j=i then y else L j)) (λ_=>rfl) (λ_=>rfl) hi qf (by show eV (if i=i then _ else _)=(eV (if i=i then _ else _)).set 2 _;rw [XAE R,XAE rfl];rfl) (λj _ hj=>qds)] at h1
 exact h1
theorem acC{W:World}{rb n:Nat}{L:Nat->Sp}(h:aG W rb 188 (bM n λj=>eV (L j))):mj W rb 0 ((List.range n).map L):=λi hi=>by
 have hi':i<n:=by simpa using hi
 have e:((List.range n).map L)[i]=L i:=ql;have hat:∀j v,j<3->(eV (L i))[j]? =some v->W.cell? (rb,i*3+j)=some v:=λj v hj hv=>h.cell _ _ ((kN (m:=3) (F:=λj=>eV (L j)) (λ_=>rfl) n i j hi' hj).trans hv);rw [e,XAV];exact⟨hat 0 _ qf R,hat 1 _ qf R,hat 2 _ qf R⟩
def Oi(A:KA)(M:KS)(b c:Int)(w:World)(e:Ending)(w':World):Prop:=
 ∃(er:Int)(M':KS),e=.returned (I er)/\KM A w' M'/\KF [] M.cl M'.cl w w'/\Sd M M'/\
  (M.cs= []->(so (1+b % 1024) 8 (bits .and .i64 (c % 8) 2 !=0)).2=0->er=0/\∃x,M'.cs= [x]/\A9 A.C 0 ⟨1+b % 1024,8,c % 8⟩ x)
theorem X8(h:KM A w M)(o a b c:Int):Z 79 #[(A.kb,0),.agg #[I o,I a,I b,I c]] w (Oi A M b c w):=by
 have HC:=XAA h;have hb1:0<=b % 1024/\b % 1024<1024:=qd
 have hc1:0<=c % 8/\c % 8<8:=qd;have HW1:=λW=>XAA (lM b 1024 qd qd W);have HW2:=λW=>XAA (lM c 8 qd qd W);obtain⟨bb,hbb⟩:=Xq (b % 1024);obtain⟨ff,jJ⟩:=Xq (c % 8);rw [hbb] at hb1 HW1;rw [jJ] at hc1 HW2;have sW:=XAA hbb;have ER:=XAA jJ;have hbw:wrap64 (1+bb)=1+bb:=XBZ _ qd;clear h hbb jJ;go_enter func79,ntmps79;go_wp2;apply kJ (A:=λ_ _ z=>ak z (w.heap.size+1) 188 #[I (1+bb),I 8,I ff]/\Below w w z)
 .intro hnext;go_region_with (first|(go_at_call 118;(with_reducible refine(HW1 _).out.mono ?_);rintro e w0 ⟨rfl,hw0⟩;replace hw0:=hw0.symm;subst hw0)|(go_at_call 118;(with_reducible refine(HW2 _).out.mono ?_);rintro e w0 ⟨rfl,hw0⟩;replace hw0:=hw0.symm;subst hw0));all_goals
   obtain⟨z,hz⟩:=Xq (((w.alloc (.cells #[I o,I a,I b,I c] 63)).alloc (.cells #[I (IntKind.i64.wrap (1+bb)),I 8,I ff] 188)).drew);have h1:ak z (w.heap.size+1) 188 #[I (1+bb),I 8,I ff]:=by rw [<-hz,show IntKind.i64.wrap (1+bb)=1+bb from XAM _ qd];have:=ak.new (w.alloc (.cells #[I o,I a,I b,I c] 63)) 188 #[I (1+bb),I 8,I ff];simp only [XAT] at this;exact this
   have h2:Below w w z:=by rw [<-hz];exact(((XAC _ _).alloc (XAB _) _).alloc ql _).drew
   rw [hz];clear hz;obtain⟨u,hu⟩:∃u:Nat,u=0:=⟨_,R⟩;obtain⟨v,hv⟩:∃v:Nat,v=0:=⟨_,R⟩;clear hu hv;exact hnext u v z ⟨h1,h2⟩
 .rintro- -z ⟨hsb,hbz⟩;have AR:=XAA hsb;have jw:=XAA hbz;have HZ:=XAA (HC.out.below hbz);obtain⟨B,cap,hcv,hcap⟩:=Own.slice HZ.out.cs.1;have k27:=HZ.out.rd.k27;rw [hcv] at k27;have pZ:=XAA hcv;obtain⟨n,hn⟩:=Xq M.cs.length;have Wg:n<=8:=by rw [<-hn];exact HC.out.ok.cs
  rw [hn] at k27 hcap;have HN:=XAA hn;have m1:=λv=>nZ (P:=prog) 222 188 (.agg #[I 0,I 0,I 0]) 24 3 underlying222 WN .i64 .i64 n qd qd v;obtain⟨cs,hcs⟩:=Xq (madeCells #[I 0,I 0,I 0] (n*3));simp only [show(Value.agg #[I 0,I 0,I 0]).cells=#[I 0,I 0,I 0] from R,hcs] at m1;have hrow:aG (z.alloc (.cells cs 188)) z.heap.size 188 (bM n λj=>eV ((λ_=>(⟨0,0,0⟩:Sp)) j)):=by have h6:=aG.jP (ak.new z 188 cs);rw [<-hcs,K_] at h6;rw [hcs] at h6;exact h6
  have oE:=XAA hrow;have Dl:=HZ.out.rd.lt;clear hsb hbz hcv hn hcs hrow hbw;go_upto_region 4 with fail
  refine bg (λz2 hz2=>?_);replace oE:=oE.out;rw [<-hz2] at oE;have HR0:=XAA oE;have HB2:Hid (Below z z z2):=XAA (by rw [hz2];exact(XAC _ z).alloc (XAB _) _);obtain⟨rb,hrb⟩:=Xq z.heap.size;have hwz:=jw.out.size;have NV:=XAA (AR.out.below HB2.out);have eQ:=XAA (jw.out.trans (HB2.out.mono hwz));rw [hrb] at HR0 hwz ⊢;have hsl:w.heap.size+1<rb:=by rw [<-hrb];exact AR.out.lt
  clear hz2 m1 k27 oE AR HB2 hrb;clear Dl;go_loopw [7,8,32] (λ_ _ zc wr=>∃(i:Nat)(L:Nat->Sp),zc=I i/\i<=n/\aG wr rb 188 (bM n λj=>eV (L j))/\Rws [rb] z2 wr) (λ_ _ zc _=>n-(intOf zc).toNat)
  case atStart=>exact⟨0,_,R,XAJ _,HR0.out,Rws.of_below [rb] (XAC _ _)⟩
  case round=>
   obtain⟨i,L,rfl,hin,hr,hR⟩:=hrel;have hbw:Below w w wr:=⟨hR.os.trans eQ.out.os,hR.tape.trans eQ.out.tape,hR.output.trans eQ.out.output,XAL eQ.out.size hR.size,λq hq=>(hR.block q (XAH hq eQ.out.size) qj).trans (eQ.out.block q hq)⟩;have HW:=XAA (HC.out.below hbw);have EM:=XAA hbw;have HRR:=XAA hR;have oE:=XAA hr;have kV:=hr.lt;clear hbw hR;by_cases hi:i<n
   .obtain⟨x,hx⟩:=lC (M:=M) (n:=i) (by rw [HN.out];exact hi);obtain⟨gc,cap',hcv',-,hci,hgl⟩:=HW.out.gK hx;have e:=pZ.out.symm.trans hcv';injection e with e1 e2 e3;subst e1;have xr:=HW.out.cw hx;have c0:=xr.c0;have c1:=xr.c1;have c2:=xr.c2;have c4:=xr.c4;have b1:(i:Int)<(n:Int):=by omega
    have a1:¬(i:Int)<0:=qd;have a2:¬n<=i:=qd;have HX:=XAA hx;clear xr hx hcv' e2 e3;cases hl:x.live with
    |false=>
     rw [hl] at c4;clear hl hr;go_wp2;go_roundw
     case rel=>exact⟨i+1,L,qbf,hi,oE.out,HRR.out⟩
     case measure=>simp [intOf];omega
    |true=>
     rw [hl] at c4;have hat:∀j v,j<3->(eV (L i))[j]? =some v->wr.cell? (rb,i*3+j)=some v:=λj v hj hv=>hr.cell _ _ ((kN (m:=3) (F:=λj=>eV (L j)) (λ_=>rfl) n i j hi hj).trans hv);have r0:=hat 0 _ qf rfl;have r1:=hat 1 _ qf rfl;have r2:=hat 2 _ qf rfl;have q0:=hr.frz (i*3);have q1:=hr.frz (i*3+1);have q2:=hr.frz (i*3+2);rw [XB5] at r0;clear hl hat hr;go_wp2;go_roundw
     case rel=>
      refine⟨i+1,λj=>if j=i then x.sp else L j,qbf,hi,aby oE.out hi x.sp,HRR.out.os,HRR.out.tape,HRR.out.output,by simpa [World.setCell] using HRR.out.size,λq hq hn=>?_⟩;have hne:q≠rb:=qhb
      exact(XAN _ _ _ q hne).trans ((XAN _ _ _ q hne).trans ((XAN _ _ _ q hne).trans (HRR.out.block q hq hn)))
     case measure=>simp [intOf];omega
   .obtain rfl:i=n:=by omega
    have hsp:=NV.out.rws HRR.out qj;have z0:=hsp.cell 0;have z1:=hsp.cell 1;have z2':=hsp.cell 2;have slt:=hsp.lt;have hf:=TA ((List.range i).map L) ⟨1+bb,8,ff⟩ (some ⟨rb,0,none⟩) i wr qj (λ_=>⟨rb,0,R,hr.lt,acC hr⟩);rw [show((List.range i).map L).length=i from ql] at hf;have hlt:=Ho (one:=⟨1+bb,8,ff⟩) ((List.range i).map L) 0;rw [show((List.range i).map L).length=i from ql,XAV] at hlt;obtain⟨r,hr1⟩:=Xq ((fM ⟨1+bb,8,ff⟩ ((List.range i).map L) 0).1);obtain⟨q,hr2⟩:=Xq ((fM ⟨1+bb,8,ff⟩ ((List.range i).map L) 0).2);rw [hr1,hr2] at hf hlt;have HF:=XAA hf;have NW:=XAA hsp;have Ns:=XAA hlt;clear hf hr1 hr2 hr hsp hlt;go_upto_region 10 with(go_at_call 119;refine HF.out.mono ?_;rintro e w5 ⟨rfl,hb5⟩;have bV:=XAA hb5;clear hb5)
    have AD:=XAA (EM.out.trans (bV.out.mono EM.out.size));have H5:=XAA (HC.out.below AD.out);have yP:=NW.out.below bV.out;have z0':=yP.cell 0;have z1':=yP.cell 1;have aec:=yP.cell 2;clear z0 z1 z2' yP;cases q with
    |false=>
     go_wp2_with (go_at_call 120;refine(JY H5.out (1+bb) 8 ff).mono ?_;rintro e w6 ⟨r6,yx,M6,rfl,h6,k6,s6,l6,x6⟩;have H6:=XAA (And.intro h6 (And.intro k6 (And.intro s6 x6)));clear h6 k6 s6 l6 x6);go_ret;obtain⟨h6,k6,s6,x6⟩:=H6.out;refine⟨yx,M6,R,h6,(KF.below [] M.cl AD.out).trans k6,s6,λh0 hof=>?_⟩;rw [sW.out,ER.out] at hof;obtain⟨e1,x,e2,e3⟩:=x6 qko hof;refine⟨e1,x,by rw [e2,h0];rfl,?_⟩;rw [h0] at e3;rw [sW.out,ER.out];exact e3
    |true=>
     have hlt':=Ns.out rfl;obtain⟨x,hx⟩:=lC (M:=M) (n:=r) (by rw [HN.out];exact hlt');obtain⟨gc,cap',hcv',hcap',hci,hgl⟩:=H5.out.gK hx;have k27:w5.cell? (A.kb,27)=some (.slice (gc,0) M.cs.length cap'):=H5.out.rd.k27.trans (XAK some hcv');have xr:=H5.out.cw hx;have c3:=xr.c3;have uF:=xr.frz 3;have a1:¬(r:Int)<0:=qd
     have a2:¬M.cs.length<=r:=XBU.2 (lt_of_some hx);have HP:=XAA (H5.out.KU hx (wrap64 (x.refs+1)));have hr8:r<8:=qd
     clear xr hcv' hx;go_wp2;go_ret;exact⟨0,_,R,HP.out.km,(KF.below [] M.cl AD.out).trans (HP.out.kf qj),⟨R,R,R,R,R,R,R,R,ql⟩,λh0 _=>(by have:=HN.out;rw [h0] at this;simp at this;omega)⟩
end
def gM(n:Nat)(aM:Int):Fm:=⟨n,aM,true,.slice none 0 0, [],0,0,0,0,0,0,.slice none 0 0, [],0⟩
section
variable{A:KA}{M M1:KS}{w w':World}{i k p nx:Nat}{aM:Int}{x:Cc}
structure ky(A:KA)(M M':KS)(p nx:Nat)(w w':World)(f:Fm):Prop where
 km:KM A w' M'
 fp:Fp M'.cl w' p f
 kf:KF [p] M.cl M'.cl w w'
 nx:f.next=nx
 bu:f.busy=true
 ac:∀a∈f.acts,dn M'.cs.length M'.hs.length M'.tn M'.G a
 al:f.acts.length<=24
 hl:f.hs.length<=8
 hh:∀h∈f.hs,h<M'.hs.length
 fr:M'.fr=M.fr
 ds:M'.ds=M.ds
 s:M'.s<=M.s+8
 hs:M'.hs.length=M.hs.length
 new:(∀g,f.av.ownBlock=some g->w.heap.size<=g)/\∀g,f.hv.ownBlock=some g->w.heap.size<=g
structure iZ(A:KA)(M:KS)(p nx:Nat)(w w':World)(f:Fm):Prop where
 km:KM A w' M
 fp:Fp M.cl w' p f
 kf:KF [p] M.cl M.cl w w'
 nx:f.next=nx
 bu:f.busy=true
 hs:f.hs= []
 hv:f.hv=.slice none 0 0
 e:f.e=0
 ac:∀a∈f.acts,dn M.cs.length M.hs.length M.tn M.G a
 new:∀g,f.av.ownBlock=some g->w.heap.size<=g
theorem iZ.drew{f:Fm}(h:iZ A M p nx w w' f):iZ A M p nx w w'.drew f:=⟨h.km.drew,h.fp.below (XAC _ _).drew,h.kf.trans (KF.below [p] _ (XAC _ _).drew),h.nx,h.bu,h.hs,h.hv,h.e,h.ac,h.new⟩
theorem iZ.app{w3:World}{f:Fm}{g cap n:Nat}{ob:Obj}(h:iZ A M p nx w w' f)(l:List Ac)(m:Nat)(em:l.length=m)(en:f.acts.length=n)(ho3:w3.ownsRow 0 20 1 (.slice (g,0) (n+m) cap) (n+m) (f.acts.map aF++l.map aF))(hg:(w'.alloc ob).grownBy w3 f.av.ownBlock)(hq:some g=f.av.ownBlock\/g=(w'.alloc ob).heap.size)
 (hl:∀a∈l,dn M.cs.length M.hs.length M.tn M.G a):iZ A M p nx w (w3.setCell (p,3) (.slice (g,0) (n+m) cap)) { f with av:=.slice (g,0) (n+m) cap,acts:=f.acts++l } :=by
 have hb:Below w' w' (w'.alloc ob):=(XAC _ _).alloc (XAB _) _;obtain⟨h1,h2,h3⟩:=Fp.app (h.km.below hb) (h.fp.below hb) l m em en ho3 hg hq;refine⟨h1,h2,(h.kf.trans (KF.below [p] _ hb)).jZ h3 λq hq' hlt=>?_,h.nx,h.bu,h.hs,h.hv,h.e,λa ha=>?_,λg' hg'=>?_⟩
 .simp at hq' ⊢;rcases hq' with e|e
  .exact e
  .exact absurd (h.new q e) qd
 .rcases XAe.1 ha with ha|ha
  .exact h.ac a ha
  .exact hl a ha
 .have e:g=g':=by simpa [Value.ownBlock] using hg'
  subst e;rcases hq with e1|e1
  .exact h.new g e1.symm
  .have:=h.kf.size;simp at e1;omega
def Ox(A:KA)(M:KS)(p nx:Nat)(o a b:Int)(w:World)(e:Ending)(w':World):Prop:=
 e=.returned (.tuple #[])/\∃M' f,ky A M M' p nx w w' f/\
  (∀x,M.cs= [x]->x.live=true->o=1->a=0->b=0->M'.cs=M.cs/\M'.hs=M.hs/\M'.T=M.T/\M'.gr=M.gr/\f.acts= [⟨173,3,1,0,0⟩,⟨176,4,0,0,0⟩]/\f.e=0/\f.hs= [])
theorem Ds(h:KM A w M)(hp:Fp M.cl w p (gM nx aM))(o a b c:Int):Z 80 #[(A.kb,0),.pointer (p,0),.agg #[I o,I a,I b,I c]] w (Ox A M p nx o a b w):=by
 have HC:=XAA h;have HP:=XAA hp;have hz0:M.cl w.heap.size=0:=h.new _ (XAB _);have mW:Hid (ak (w.alloc (.cells #[I o,I a,I b,I c] 63)) w.heap.size 63 #[I o,I a,I b,I c]):=XAA (ak.new _ _ _);clear h hp;go_enter func80,ntmps80;go_wp2;go_region;obtain⟨w0,hw0⟩:=Xq ((w.alloc (.cells #[I o,I a,I b,I c] 63)).drew);have HB0:Hid (Below w w w0):=XAA (by rw [<-hw0];exact((XAC _ _).alloc (XAB _) _).drew);have hcb:ak w0 w.heap.size 63 #[I o,I a,I b,I c]:=by rw [<-hw0];exact mW.out
 have y0:=hcb.cell 0;have y1:=hcb.cell 1;have y2:=hcb.cell 2;have y3:=hcb.cell 3;have ylt:=hcb.lt;have bP:=XAA (HC.out.below HB0.out);have ke:=XAA (HP.out.below HB0.out);have dD:Hid (KF [p] M.cl M.cl w w0):=XAA (KF.below [p] _ HB0.out);rw [hw0];clear hw0 mW hcb;have uY:=XAA (λ(X n:Int) (W:World) (h1:1<=n) (h2:n<=4611686018427387904)=>(lM X n h1 h2 W).mono (R':=λe w'=>∃t,0<=t/\t<n/\e=.returned (I t)/\w'=W/\Hid (t=X % n)) λe w' ⟨he,hw⟩=>⟨X % n,XBH _ qd,XBW _ qd,he,hw,XAA R⟩);go_upto_block 0 with fail
 go_cut [6,7,8] from 9 to 105 (λm g i wx=>∃(mn:Nat)(gi ix er:Int)(M3:KS),m=I mn/\1<=mn/\mn<=8/\g=I gi/\i=I ix/\KM A wx M3/\Fp M3.cl wx p { gM nx aM with e:=er } /\KF [p] M.cl M3.cl w wx/\Sd M M3/\(er=0->0<=ix/\ix<M3.cs.length)/\(∀x,M.cs= [x]->x.live=true->o=1->a=0->b=0->mn=1/\gi=0/\ix=0/\er=0/\M3.cs=M.cs/\M3.hs=M.hs/\M3.T=M.T/\M3.gr=M.gr))
 case first=>
  rcases (by cases(o==12)<;>simp:(o==12)=true\/(o==12)=false) with q1|q1
  .have HO:Hid (o=12):=XAA qct;go_wp2_with (first|(go_at_call 118;(refine(uY.out _ 1024 _ qf qf).mono ?_);rintro e wv ⟨t,ht0,ht1,rfl,hw1,-⟩;replace hw1:=hw1.symm;subst hw1)|(go_at_call 121;(refine(Ya bP.out (1+t) qd).mono ?_);rintro e w5 ⟨r,er,M5,rfl,h5,k5,s5,l5⟩;have H5:=XAA h5;have K5:=XAA k5;have S5:=XAA s5;have L5:=XAA l5;have bJ:=ke.out.kf k5;have fj:=XAA bJ;have p11:=bJ.blk.cell 11;have cX:=bJ.blk.frozen 11;clear h5 k5 s5 l5 bJ));go_meet;obtain⟨e1,e2,e3⟩:=Fp.fe H5.out fj.out er;exact⟨1,b,r,er,M5,rfl,qd,qd,rfl,rfl,e1,e2,(dD.out.then_ K5.out).trans e3,S5.out,L5.out,λ_ _ _ h1=>qjl⟩
  .rcases (by cases(o==3)<;>simp:(o==3)=true\/(o==3)=false) with q2|q2
   .have HO:Hid (o=3):=XAA qcu;go_wp2;go_region_held3 (λw'=>w'.cell? (w.heap.size,2)=I b/\w'.cell? (w.heap.size,3)=I c) (exact⟨qm,qm⟩) (first|(go_at_call 118;(refine(uY.out _ 8 _ qf qf).mono ?_);rintro e wv ⟨t,ht0,ht1,rfl,rfl,-⟩;have y2':=y2;have Mm:=y3));generalize hw1:IntKind.i64.wrap (1+t)=tt;have htt:tt=1+t:=by rw [<-hw1];exact XAM _ qd
    subst htt;clear hw1;have EY:=XAA bP.out.drew;have NM:=XAA (ke.out.below (XAC _ w0).drew);have aeb:w.heap.size<w0.drew.heap.size:=ylt;have y1d:w0.drew.cell? (w.heap.size,1)=I a:=y1;go_wp2_with (go_at_call 122;(refine(yY EY.out a).mono ?_);rintro e w5 ⟨rfl,hb5⟩;have bV:=XAA hb5;have H5:=XAA (EY.out.below hb5);have bJ:=NM.out.below hb5;have fj:=XAA bJ;have p11:=bJ.blk.cell 11;have cX:=bJ.blk.frozen 11;clear hb5 bJ);go_meet;obtain⟨e1,e2,e3⟩:=Fp.fe H5.out fj.out (findF M a).2;exact⟨(1+t).toNat,c,((findF M a).1:Int),(findF M a).2,M,by(congr 1;omega),qd,qd,R,R,e1,e2,((dD.out.trans (KF.below [p] _ (XAC _ w0).drew)).trans (KF.below [p] _ bV.out)).trans e3,Sd.refl M,λh0=>⟨qd,by have:=Cf h0;omega⟩,λ_ _ _ h1=>qjl⟩
   .have HO:Hid (o≠3):=XAA qcu;go_wp2_with (go_at_call 122;(refine(yY bP.out a).mono ?_);rintro e w5 ⟨rfl,hb5⟩;have bV:=XAA hb5;have H5:=XAA (bP.out.below hb5);have bJ:=ke.out.below hb5;have fj:=XAA bJ;have p11:=bJ.blk.cell 11;have cX:=bJ.blk.frozen 11;clear hb5 bJ);go_meet;obtain⟨e1,e2,e3⟩:=Fp.fe H5.out fj.out (findF M a).2;refine⟨1,b,((findF M a).1:Int),(findF M a).2,M,R,qd,qd,R,R,e1,e2,(dD.out.trans (KF.below [p] _ bV.out)).trans e3,Sd.refl M,λh0=>⟨qd,by have:=Cf h0;omega⟩,λx hx hl _ h0 h1=>⟨R,h1,?_⟩⟩;have hf:findF M a=(0,0):=by
     unfold findF;rw [h0,hx];simp [Dy,hl]
    rw [hf];exact⟨R,R,R,R,R,R⟩
 case rest=>
  obtain⟨mn,gi,ix,er,M3,rfl,hm1,Wf,rfl,rfl,h3,p3,f3,s3,l3,x3⟩:=hcut;have H3:=XAA h3;have P3:=XAA p3;have F3:=XAA f3;have S3:=XAA s3;have X3:=XAA x3;have p11:wc.cell? (p,11)=I er:=p3.blk.cell 11;have hn2:=h3.tr.ok.n2;have hn1:=h3.tr.ok.n1;have k4:=h3.rd.k4;rcases (by cases(er !=0)<;>simp:(er !=0)=true\/(er !=0)=false) with her|her
  .have HE:=XAA her;clear h3 p3 f3 s3 l3 x3 k4;go_wp2;(first|go_end0|refine Xe ?_);exact⟨rfl,M3,_,⟨H3.out,P3.out,F3.out,rfl,rfl,λa ha=>qdh,XAJ _,XAJ _,λh hh=>qjk,S3.out.fr,S3.out.ds,by rw [S3.out.s];omega,by rw [S3.out.hs],λg hg=>qce,λg hg=>qce⟩,λx h1 h2 h4 h5 h6=>(by have:=(X3.out x h1 h2 h4 h5 h6).2.2.2.1;subst this;cases HE.out)⟩
  .have he0:er=0:=by simpa using her
   obtain⟨hi0,hi1⟩:=l3 he0;obtain⟨i,rfl⟩:∃i:Nat,ix=i:=⟨ix.toNat,qd⟩;obtain⟨x,hx⟩:=lC (M:=M3) (n:=i) qd;have HE:=XAA he0;have hic:i<M3.cs.length:=qd
   have HX:=XAA hx;clear h3 p3 f3 s3 l3 x3 he0 hx hi0 hi1;go_upto_region 12 with(first|(go_at_call 123;refine Xr (D7 _ H3.out.tr) ?_)|(go_at_call 118;(refine(uY.out _ ((M3.tn:Int)+1) _ qd qd).mono ?_);rintro e wv ⟨t,ht0,ht1,rfl,hw1,ht2⟩;replace hw1:=hw1.symm;subst hw1))
   obtain⟨gn,rfl⟩:∃gn:Nat,t=gn:=⟨t.toNat,qd⟩;have AF:Hid (gi=0->gn=0):=XAA λh0=>(by have:=ht2.out;rw [h0] at this;simp at this;omega);clear ht2;have HI0:Hid (iZ A M3 p nx wc wc { gM nx aM with e:=er }):=XAA ⟨H3.out,P3.out,KF.refl _ _ _,R,R,R,R,HE.out,λa ha=>qdh,λg hg=>qce⟩;have hgt:gn<=M3.tn:=qd
   clear ht0 ht1 p11 k4 her;go_loopw [61] (λz wr=>∃(j:Nat)(f:Fm),z=I j/\j<=mn/\iZ A M3 p nx wc wr f/\f.acts.length<=3*j/\(gn=0->i=0->mn=1->(j=0->f.acts= [])/\(j=1->f.acts= [⟨173,3,1,0,0⟩,⟨176,4,0,0,0⟩]))) (λz _=>mn-(intOf z).toNat)
   case atStart=>exact⟨0,_,R,XAJ _,HI0.out,XAJ _,λ_ _ _=>⟨λ_=>rfl,λh=>qck⟩⟩
   case round=>
    obtain⟨j,f,rfl,hjm,hI,hlen,hX⟩:=hrel;have HI:=XAA hI;have ti:=XAA hX;obtain⟨n,hn⟩:=Xq f.acts.length;rw [hn] at hlen;have HN:=XAA hn;clear hI hX hn;by_cases hj:j<mn
    .have b1:(j:Int)<(mn:Int):=by omega
     by_cases hg0:gn=0
     .have g1:¬(0:Int)<(gn:Int):=by omega
      have xv:=XAA hg0;clear hg0;obtain⟨B,cap,hav,hcap⟩:=Own.slice HI.out.fp.av;have p3:=HI.out.fp.blk.cell 3;have q3:wr.cell? (p,3)=some (.slice B n cap):=p3.trans (XAK some (hav.trans (by rw [HN.out])));have qfz:=HI.out.fp.blk.frozen 3;have b6:=HI.out.fp.blk.lt;have ov:=XAA (show f.av=.slice B n cap by rw [hav,HN.out]);have ea:Hid (∀ob:Obj,(wr.alloc ob).ownsRow 0 20 1 (.slice B n cap) n (f.acts.map aF)):=XAA λob=>by have:=(Own.below HI.out.fp.av ((XAC _ wr).alloc (XAB _) ob)).1;rw [hav,HN.out] at this;exact this
      have mX:Hid (∀(ob:Obj)(w3:World),(wr.alloc ob).grownBy w3 (Value.slice B n cap).ownBlock->w3.heap[p]? =wr.heap[p]?):=XAA λob w3 hg=>(hg.block p qj λe=>own_ne HI.out.fp.av.1 HI.out.fp.blk qf qjf).trans (XAX wr _ _ b6);clear p3 hav hcap;go_wp2_with (at_builtin;refine iW gg R qf fV qu _ _ qu _ n (f.acts.map aF) qu (ea.out _) (some ⟨wr.heap.size,0,none⟩) 2 2 [aF ⟨173,3,1,i,0⟩,aF ⟨176,4,i,gn,0⟩] qu (Reads.lit wr 20 #[aF ⟨173,3,1,i,0⟩,aF ⟨176,4,i,gn,0⟩] 2 1 R) qk qd qf qd ?_;intro g3 cap3 w3 ho3 hg3 hq3;have hfn:=mX.out _ w3 hg3;have hy:=(XAP (w:=wr) (a:=⟨p,3,none⟩) hfn).trans q3;have hz:=(XAh (w:=wr) (a:=⟨p,3,none⟩) hfn).trans qfz;clear hfn);go_roundw
      case rel=>
       have h7:=HI.out.app [⟨173,3,1,i,0⟩,⟨176,4,i,gn,0⟩] 2 R HN.out ho3 qft qfu (λq hq=>by
        simp at hq
        rcases hq with rfl|rfl
        .exact .inr (.inl ⟨R,qdc,qjd⟩)
        .exact .inr (.inr ⟨R,qdc,λh=>qck,λ_=>qjd⟩))
       exact⟨j+1,_,qbf,hj,h7,by show(f.acts++_).length<=_;rw [XAZ,HN.out];simp;omega,λh1 h2 h3=>⟨λh=>qd,λ_=>(by subst h1 h2;show f.acts++_=_;rw [((ti.out R R h3).1 qd)];rfl)⟩⟩
      case measure=>simp [intOf];omega
     .have g1:(0:Int)<(gn:Int):=by omega
      have xv:=XAA hg0;clear hg0;obtain⟨B,cap,hav,hcap⟩:=Own.slice HI.out.fp.av;have p3:=HI.out.fp.blk.cell 3;have q3:wr.cell? (p,3)=some (.slice B n cap):=p3.trans (XAK some (hav.trans (by rw [HN.out])));have qfz:=HI.out.fp.blk.frozen 3;have b6:=HI.out.fp.blk.lt;have ov:=XAA (show f.av=.slice B n cap by rw [hav,HN.out]);have ea:Hid (((wr.alloc (.cells #[aF ⟨157,1,gn,x.ly.st,0⟩] 20)).drew).ownsRow 0 20 1 (.slice B n cap) n (f.acts.map aF)):=XAA (by
       have:=(Own.below HI.out.fp.av (((XAC _ wr).alloc (XAB _) (.cells #[aF ⟨157,1,gn,x.ly.st,0⟩] 20)).drew)).1
       rw [hav,HN.out] at this;exact this)
      have HR:=XAA ((Reads.act wr 20 ⟨157,1,gn,x.ly.st,0⟩).drew);have mX:Hid (∀(ob:Obj)(w3:World),(wr.alloc ob).drew.grownBy w3 (Value.slice B n cap).ownBlock->w3.heap[p]? =wr.heap[p]?):=XAA λob w3 hg=>(hg.block p (by show p<(wr.alloc ob).heap.size;simp;omega) λe=>own_ne HI.out.fp.av.1 HI.out.fp.blk qf qjf).trans (XAX wr _ _ b6);obtain⟨gc,ni,hcv,hcc,hci,hgl⟩:=HI.out.km.gK HX.out;have k27:wr.cell? (A.kb,27)=some (.slice (gc,0) M3.cs.length ni):=HI.out.km.rd.k27.trans (XAK some hcv);have a8:=HI.out.km.rd.lt;have c9:=(HI.out.km.cw HX.out).c9;have xlt:=(HI.out.km.cw HX.out).lt;have a1:¬(i:Int)<0:=qd
      have a2:¬M3.cs.length<=i:=XBU.2 hic;clear p3 hav hcap hcv hcc;go_upto_region 14 with fail
      apply kJ (A:=λ_ _ w5=>∃f5,iZ A M3 p nx wc w5 f5/\f5.acts.length=n+1)
      .intro hnext;go_region_law (refine iS gg R qf fV R _ _ qu _ n (f.acts.map aF) qu ea.out (some ⟨wr.heap.size,0,none⟩) 1 1 [aF ⟨157,1,gn,x.ly.st,0⟩] qu HR.out qk qd qf qd ?_;intro g3 cap3 w3 ho3 hg3 hq3;have hfn:=mX.out _ w3 hg3;have hy:=(XAP (w:=wr) (a:=⟨p,3,none⟩) hfn).trans q3;have hz:=(XAh (w:=wr) (a:=⟨p,3,none⟩) hfn).trans qfz;clear hfn);all_goals
        have h7:=HI.out.drew.app (ob:=.cells #[aF ⟨157,1,gn,x.ly.st,0⟩] 20) [⟨157,1,gn,x.ly.st,0⟩] 1 R HN.out ho3 qft qfu (λq hq=>by
         simp at hq;subst hq
         exact .inl ⟨R,λ_=>⟨by show(1:Int)<=(gn:Int);omega,by show(gn:Int)<=(M3.tn:Int);omega⟩,λh=>qer,λh=>qer⟩)
        generalize w3.setCell (p,3) (.slice (g3,0) (n+1) cap3)=w5 at h7 ⊢;exact hnext g3 cap3 w5 ⟨_,h7,qdg⟩
      .rintro g3 cap3 w5 ⟨f5,h5,pd⟩;have iX:=XAA h5;obtain⟨n5,e5⟩:=Xq (n+1);rw [e5] at pd;have me:=XAA pd;clear h5 pd ea HR mX k27 a8 c9 xlt a1 a2 hci hgl q3 qfz b6;obtain⟨B,cap,hav,hcap⟩:=Own.slice iX.out.fp.av;have p3:=iX.out.fp.blk.cell 3;have q3:w5.cell? (p,3)=some (.slice B n5 cap):=p3.trans (XAK some (hav.trans (by rw [me.out])));have qfz:=iX.out.fp.blk.frozen 3;have b6:=iX.out.fp.blk.lt;have ov:=XAA (show f5.av=.slice B n5 cap by rw [hav,me.out]);have ea:Hid (∀ob:Obj,(w5.alloc ob).ownsRow 0 20 1 (.slice B n5 cap) n5 (f5.acts.map aF)):=XAA λob=>by
        have:=(Own.below iX.out.fp.av ((XAC _ w5).alloc (XAB _) ob)).1;rw [hav,me.out] at this;exact this
       have Nd:Hid (∀(ob:Obj)(w3:World),(w5.alloc ob).grownBy w3 (Value.slice B n5 cap).ownBlock->w3.heap[p]? =w5.heap[p]?):=XAA λob w3 hg=>(hg.block p qj λe=>own_ne iX.out.fp.av.1 iX.out.fp.blk qf qjf).trans (XAX w5 _ _ b6);clear p3 hav hcap;go_wp2_with (at_builtin;refine iW gg R qf fV qu _ _ qu _ n5 (f5.acts.map aF) qu (ea.out _) (some ⟨w5.heap.size,0,none⟩) 2 2 [aF ⟨173,3,1,i,0⟩,aF ⟨176,4,i,gn,0⟩] qu (Reads.lit w5 20 #[aF ⟨173,3,1,i,0⟩,aF ⟨176,4,i,gn,0⟩] 2 1 R) qk qd qf qd ?_;intro g3 cap3 w3 ho3 hg3 hq3;have hfn:=Nd.out _ w3 hg3;have hy:=(XAP (w:=w5) (a:=⟨p,3,none⟩) hfn).trans q3;have hz:=(XAh (w:=w5) (a:=⟨p,3,none⟩) hfn).trans qfz;clear hfn);go_roundw
       case rel=>
        have h7:=iX.out.app [⟨173,3,1,i,0⟩,⟨176,4,i,gn,0⟩] 2 R me.out ho3 qft qfu (λq hq=>by
         simp at hq
         rcases hq with rfl|rfl
         .exact .inr (.inl ⟨R,qdc,qjd⟩)
         .exact .inr (.inr ⟨R,qdc,λh=>qck,λ_=>qjd⟩))
        exact⟨j+1,_,qbf,hj,h7,by show(f5.acts++_).length<=_;rw [XAZ,me.out];simp;omega,λh1=>absurd h1 xv.out⟩
       case measure=>simp [intOf];omega
    .obtain rfl:j=mn:=by omega
     go_wp2;(first|go_end0|refine Xe ?_);have h9:=HI.out;refine⟨rfl,M3,f,⟨h9.km,h9.fp,F3.out.trans h9.kf,h9.nx,h9.bu,h9.ac,by rw [HN.out];omega,qhr,λq hq=>qjh,S3.out.fr,S3.out.ds,by rw [S3.out.s];omega,by rw [S3.out.hs],λg hg=>XAL F3.out.size (h9.new g hg),λg hg=>qji⟩,λx h1 h2 h4 h5 h6=>?_⟩;obtain⟨r1,r2,r3,r4,r5,r6,r7,r8⟩:=X3.out x h1 h2 h4 h5 h6;exact⟨r5,r6,r7,r8,(ti.out (AF.out r2) qd r1).2 r1,h9.e,h9.hs⟩
end
section
variable{A:KA}{M M1:KS}{w w':World}{i k p nx:Nat}
def Og(M:KS)(o:Int)(w:World)(e:Ending)(w':World):Prop:=
 ∃r er:Int,e=.returned (.tuple #[I r,I er])/\Below w w w'/\(r<0\/∃n:Nat,r=n/\n<M.hs.length)/\(o=2->∀y,M.hs= [y]->y.out=true->r=0/\er=0)
theorem Wj(h:KM A w M)(hs:M.s<=30000)(z:Hn)(q:Nat)(h0:w.cell? (q,0)=some (nV z.ca))(h1:w.cell? (q,1)=I z.sl)(h2:w.cell? (q,2)=I z.ob)(gV:q<w.heap.size)(B:Option Addr)(c L:Nat)(hv:M.hv=.slice B L c)(hL:M.hs.length=L):Z 174 #[.slice B L c,.func (.func 175) #[] #[(q,0)]] w (FD L w):=by
 subst hL;rcases XAr M.hs.length with e0|hp
 .rw [e0];exact(Jg _ _ _ _).mono λe w' ⟨h1,h2⟩=>⟨_,h1,.inl R,qdq⟩
 .obtain⟨gh,cap,pw,-,-⟩:=h.hav hp;rw [hv] at pw;injection pw with e1 e2 e3;subst e1;have eg:∀args w,(callFunc 175 args).run prog w=.ok (.enter 175 args) w:=enters_of XCl qh rfl;have hcon:=AnyQ.slices_IndexFunc acz 5 isAgg68 sizeOf68 cB (λ_=>rfl) (λy=>y.out && (((y.ca:Int)==(z.ca:Int)) && ((y.sl==z.sl) && (y.ob==z.ob)))) 175 #[.pointer (some ⟨q,0,none⟩)] eg gh 0 M.hs.length c M.hs w
   (λW y hW=>(XZ y z q W (XAH gV hW.size) ((hW.cell (p:=⟨q,0,none⟩) gV).trans h0) ((hW.cell (p:=⟨q,1,none⟩) gV).trans h1) ((hW.cell (p:=⟨q,2,none⟩) gV).trans h2)).mono λe w' ⟨h1,h2⟩=>⟨h1,hW.trans (h2.mono hW.size)⟩) (XAB _) qja qcl (Ji h hv)
  change Z 174 _ _ _ at hcon;refine hcon.mono λe w' ⟨h1,h2⟩=>⟨_,h1,?_,h2⟩;have:=C6 (λ_ y=>y.out && (((y.ca:Int)==(z.ca:Int)) && ((y.sl==z.sl) && (y.ob==z.ob)))) default (M.hs.take M.hs.length) 0;rw [List.take_length] at this ⊢;rw [XAV] at this;exact this
theorem XY(h:KM A w M)(hs:M.s<=30000)(o a b c:Int):Z 124 #[(A.kb,0),.agg #[I o,I a,I b,I c]] w (Og M o w):=by
 have HC:=XAA h;obtain⟨B,cap,hv,hcap⟩:=Own.slice (show Own _ 9 w 68 5 M.hv M.hs.length (M.hs.flatMap cB) from h.hs);obtain⟨L,hL⟩:=Xq M.hs.length;have hL6:L<=900000:=qja
 rw [hL] at hv hcap;have HV:=XAA hv;have HL:=XAA hL;clear h hv hL;go_enter func124,ntmps124;go_upto_region 1 with fail
 refine bg (λW hW=>?_);have hcb:ak W w.heap.size 63 #[I o,I a,I b,I c]:=qdt
 have HB0:Hid (Below w w W):=XAA qbq;have bP:=XAA (HC.out.below HB0.out);have y0:=hcb.cell 0;have y1:=hcb.cell 1;have y2:=hcb.cell 2;have y3:=hcb.cell 3;have ylt:=hcb.lt;have k28:=bP.out.rd.k28;rw [HV.out] at k28;have a8:=bP.out.rd.lt;clear hW hcb;rcases (by cases(o==2)<;>simp:(o==2)=true\/(o==2)=false) with q1|q1
 .rcases XAr L with l0|l0
  .have l1:((L:Int)==0)=true:=by simp;omega
   go_wp2
   go_ret2
   exact⟨-1,0,R,HB0.out,.inl qd,λ_ y hy=>by have:=HL.out;rw [hy] at this;simp at this;omega⟩
  .have l1:((L:Int)==0)=false:=by simp;omega
   obtain⟨gh,cap',hv',-,hrd⟩:=bP.out.hav (by rw [HL.out];exact l0);have e:=HV.out.symm.trans hv';injection e with e1 e2 e3;subst e1;have HH:=XAA hrd;clear hv' hrd e2 e3;obtain⟨n,hn⟩:∃n:Nat,(n:Int)=a % (L:Int):=⟨(a % (L:Int)).toNat,qfo⟩;have hnl:n<L:=qez
   have HW:Hid (∀W,Z 118 #[I a,I L] W λe w'=>e=.returned (I n)/\Below W W w'):=XAA λW=>(lM a L qd qd W).mono λe w' ⟨h1,h2⟩=>⟨by rw [h1,hn],qdq⟩;have HN:Hid (L=1->n=0):=XAA λh=>qd
   clear hn;go_upto_region 4 with fail
   (refine bN 8 (W.heap.size) ?_;intro hxc aA hxh hxn;simp only [List.take,List.drop];(repeat (first|go_big_quiet_step ((go_at_call 118;exact dy (HW.out _)))|quiet_step ((go_at_call 118;exact dy (HW.out _)))));refine XAG ?_;clear hxc aA hxh hxn;intro w1 hb1 hz1 hc1 hf1)
   clear hc1 hf1 HW;have aS:=XAA (bP.out.below hb1);have HB1:=XAA (HB0.out.trans (hb1.mono HB0.out.size));obtain⟨y,hy⟩:∃y,M.hs[n]? =some y:=⟨_,XAO qih⟩;clear bP k28;obtain⟨Cx,hfz,r0,r1,r2,r3,r4⟩:=aS.out.hat (n:=n) HV.out hy;have k28:=aS.out.rd.k28;rw [HV.out] at k28;have Dk:=aS.out.rd.lt;have a1:¬(n:Int)<0:=qd
   have a2:¬L<=n:=qd;have HY:=XAA hy;clear hb1 hy;cases ho:y.out with
   |false=>
    rw [ho] at r4;have HO:=XAA ho;clear ho;go_wp2
    go_ret2
    exact⟨-1,0,R,HB1.out,.inl qd,λ_ z hz ho=>(by
     have e1:L=1:=by rw [<-HL.out,hz];rfl
     have e2:=HN.out e1
     have e3:=HY.out
     rw [hz,e2] at e3
     have e4:z=y:=by simpa using e3
     rw [e4,HO.out] at ho;cases ho)⟩
   |true=>
    rw [ho] at r4;clear ho;go_wp2
    go_ret2
    exact⟨n,0,R,HB1.out,.inr ⟨n,R,qih⟩,λ_ z hz _=>⟨(by
     have e1:L=1:=by rw [<-HL.out,hz];rfl
     have e2:=HN.out e1
     omega),R⟩⟩
 .have HO:Hid (o≠2):=XAA qct;obtain⟨i,hi⟩:=Xq ((findF M a).1);obtain⟨er,her⟩:=Xq ((findF M a).2);have hfd:=yY bP.out a;rw [hi,her] at hfd;have HF:=XAA hfd;clear hi her hfd k28 bP;go_upto_region 6 with(go_at_call 122;refine HF.out.mono ?_;rintro e w5 ⟨rfl,hb5⟩;have bV:=XAA hb5;clear hb5)
  have HB1:=XAA (HB0.out.trans (bV.out.mono HB0.out.size));rcases (by cases(er !=0)<;>simp:(er !=0)=true\/(er !=0)=false) with q2|q2
  .go_wp2
   go_ret2
   exact⟨-1,er,R,HB1.out,.inl qd,λh=>absurd h HO.out⟩
  .have z2:=(bV.out.cell (p:=⟨w.heap.size,2,none⟩) ylt).trans y2;have z3:=(bV.out.cell (p:=⟨w.heap.size,3,none⟩) ylt).trans y3;have gv:=XAH ylt bV.out.size;obtain⟨bb,hbb⟩:=Xq (b % 32);obtain⟨cc,hcc⟩:=Xq (c % 16);have HW1:=λW=>XAA (lM b 32 qd qd W);have HW2:=λW=>XAA (lM c 16 qd qd W);rw [hbb] at HW1;rw [hcc] at HW2;clear hbb hcc y0 y1 y2 y3 ylt a8;go_upto_region 8 with fail
   apply kJ (A:=λ_ _ z=>ak z w5.heap.size 68 #[nV i,I bb,I cc,I 0,.bool false]/\Below w5 w5 z)
   .intro hnext;go_region_with (first|(go_at_call 118;(with_reducible refine(HW1 _).out.mono ?_);rintro e w0 ⟨rfl,hw0⟩;replace hw0:=hw0.symm;subst hw0)|(go_at_call 118;(with_reducible refine(HW2 _).out.mono ?_);rintro e w0 ⟨rfl,hw0⟩;replace hw0:=hw0.symm;subst hw0));all_goals
     obtain⟨z,hz⟩:=Xq ((w5.alloc (.cells #[nV i,I bb,I cc,I 0,.bool false] 68)).drew);have h1:ak z w5.heap.size 68 #[nV i,I bb,I cc,I 0,.bool false]:=by rw [<-hz];exact ak.new w5 _ _
     have h2:Below w5 w5 z:=by rw [<-hz];exact((XAC _ _).alloc (XAB _) _).drew
     rw [hz];clear hz;obtain⟨u,hu⟩:∃u:Nat,u=0:=⟨_,R⟩;obtain⟨v,hv⟩:∃v:Nat,v=0:=⟨_,R⟩;clear hu hv;exact hnext u v z ⟨h1,h2⟩
   .rintro- -z ⟨hsb,hbz⟩;have jw:=XAA (HB1.out.trans (hbz.mono HB1.out.size));have HZ:=XAA (HC.out.below jw.out);have te:=XAA (Wj HZ.out hs ⟨i,bb,cc,0,false⟩ w5.heap.size (hsb.cell 0) (hsb.cell 1) (hsb.cell 2) hsb.lt B cap L HV.out HL.out);have k28:=HZ.out.rd.k28;rw [HV.out] at k28;have a8:=HZ.out.rd.lt;clear hsb hbz z2 z3 gv;go_upto_region 10 with(go_at_call 174;(refine te.out.mono ?_);rintro e w6 ⟨r,rfl,hr,hb6⟩;have dw:=XAA hb6;have HR:=XAA hr;clear hb6 hr)
    have eQ:=XAA (jw.out.trans (dw.out.mono jw.out.size));clear k28 te a8;by_cases hr0:r= -1
    .subst hr0;go_wp2
     go_ret2
     exact⟨-1,0,R,eQ.out,.inl qd,λh=>absurd h HO.out⟩
    .obtain⟨n,rfl⟩:∃n:Nat,r=n:=⟨r.toNat,by rcases HR.out with h|h<;>omega⟩;have hnl:n<L:=by rcases HR.out with h|h<;>omega
     have H6:=XAA (HC.out.below eQ.out);obtain⟨gh,cap',hv',-,hrd⟩:=H6.out.hav (by rw [HL.out];omega);have e:=HV.out.symm.trans hv';injection e with e1 e2 e3;subst e1;obtain⟨y,hy⟩:∃y,M.hs[n]? =some y:=⟨_,XAO qih⟩;obtain⟨Cx,hfz,r0,r1,r2,r3,r4⟩:=H6.out.hat (n:=n) HV.out hy;have k28:=H6.out.rd.k28;rw [HV.out] at k28;have Dk:=H6.out.rd.lt;have a1:¬(n:Int)<0:=qd
     have a2:¬L<=n:=qd;clear hrd hv' e2 e3 hy hr0;cases ho:y.out with
     |false=>
      rw [ho] at r4;clear ho;go_wp2
      go_ret2
      exact⟨-1,0,R,eQ.out,.inl qd,λh=>absurd h HO.out⟩
     |true=>
      rw [ho] at r4;clear ho;go_wp2
      go_ret2
      exact⟨n,0,R,eQ.out,.inr ⟨n,R,qih⟩,λh=>absurd h HO.out⟩
end
def kK(w:World)(b k:Nat)(f:Fm):World:=(((((((((((w.setCell (b,k*12) (nV f.next)).setCell (b,k*12+1) (I f.aM)).setCell (b,k*12+2) (.bool f.busy)).setCell (b,k*12+3) (f.av)).setCell (b,k*12+4) (I f.ai)).setCell (b,k*12+5) (I f.aq)).setCell (b,k*12+6) (I f.pK)).setCell (b,k*12+7) (I f.pA)).setCell (b,k*12+8) (I f.pB)).setCell (b,k*12+9) (I f.pC)).setCell (b,k*12+10) (f.hv)).setCell (b,k*12+11) (I f.e)
section
variable{A:KA}{M:KS}{cl:Nat->Nat}{w w':World}{js:List Nat}{b k C:Nat}{t:TypeId}{fr:Nat->Fm}
theorem kL(f:Fm)(hk:k<C)(h:aG w b t (bM C λj=>bf (aL fr k f j)))(f':Fm)(j:Nat)(hj:j<12)(v:Value)(e:bf f'=(bf f).set j v):aG (w.setCell (b,k*12+j) v) b t (bM C λj=>bf (aL fr k f' j)):=by
 have h1:=h.set (k*12+j) v;rw [Cy hk j hj v (f:=f') (by rw [b_];exact e)] at h1;simpa only [Eb] using h1
theorem Ig(hr:aG w b t (bM C λj=>bf (fr j)))(hk:k<C)(f:Fm):aG (kK w b k f) b t (bM C λj=>bf (aL fr k f j)):=by
 have h:aG w b t (bM C λj=>bf (aL fr k (fr k) j)):=by rw [LZ];exact hr
 have h0:=kL (fr k) hk h { fr k with next:=f.next } 0 qf (nV f.next) rfl;have h1:=kL { fr k with next:=f.next } hk h0 { fr k with next:=f.next,aM:=f.aM } 1 qf (I f.aM) rfl;have h2:=kL { fr k with next:=f.next,aM:=f.aM } hk h1 { fr k with next:=f.next,aM:=f.aM,busy:=f.busy } 2 qf (.bool f.busy) rfl;have h3:=kL { fr k with next:=f.next,aM:=f.aM,busy:=f.busy } hk h2 { fr k with next:=f.next,aM:=f.aM,busy:=f.busy,av:=f.av } 3 qf (f.av) rfl;have h4:=kL { fr k with next:=f.next,aM:=f.aM,busy:=f.busy,av:=f.av } hk h3 { fr k with next:=f.next,aM:=f.aM,busy:=f.busy,av:=f.av,ai:=f.ai } 4 qf (I f.ai) rfl;have h5:=kL { fr k with next:=f.next,aM:=f.aM,busy:=f.busy,av:=f.av,ai:=f.ai } hk h4 { fr k with next:=f.next,aM:=f.aM,busy:=f.busy,av:=f.av,ai:=f.ai,aq:=f.aq } 5 qf (I f.aq) rfl;have h6:=kL { fr k with next:=f.next,aM:=f.aM,busy:=f.busy,av:=f.av,ai:=f.ai,aq:=f.aq } hk h5 { fr k with next:=f.next,aM:=f.aM,busy:=f.busy,av:=f.av,ai:=f.ai,aq:=f.aq,pK:=f.pK } 6 qf (I f.pK) rfl;have h7:=kL { fr k with next:=f.next,aM:=f.aM,busy:=f.busy,av:=f.av,ai:=f.ai,aq:=f.aq,pK:=f.pK } hk h6 { fr k with next:=f.next,aM:=f.aM,busy:=f.busy,av:=f.av,ai:=f.ai,aq:=f.aq,pK:=f.pK,pA:=f.pA } 7 qf (I f.pA) rfl;have h8:=kL { fr k with next:=f.next,aM:=f.aM,busy:=f.busy,av:=f.av,ai:=f.ai,aq:=f.aq,pK:=f.pK,pA:=f.pA } hk h7 { fr k with next:=f.next,aM:=f.aM,busy:=f.busy,av:=f.av,ai:=f.ai,aq:=f.aq,pK:=f.pK,pA:=f.pA,pB:=f.pB } 8 qf (I f.pB) rfl;have h9:=kL { fr k with next:=f.next,aM:=f.aM,busy:=f.busy,av:=f.av,ai:=f.ai,aq:=f.aq,pK:=f.pK,pA:=f.pA,pB:=f.pB } hk h8 { fr k with next:=f.next,aM:=f.aM,busy:=f.busy,av:=f.av,ai:=f.ai,aq:=f.aq,pK:=f.pK,pA:=f.pA,pB:=f.pB,pC:=f.pC } 9 qf (I f.pC) rfl;have h10:=kL { fr k with next:=f.next,aM:=f.aM,busy:=f.busy,av:=f.av,ai:=f.ai,aq:=f.aq,pK:=f.pK,pA:=f.pA,pB:=f.pB,pC:=f.pC } hk h9 { fr k with next:=f.next,aM:=f.aM,busy:=f.busy,av:=f.av,ai:=f.ai,aq:=f.aq,pK:=f.pK,pA:=f.pA,pB:=f.pB,pC:=f.pC,hv:=f.hv } 10 qf (f.hv) rfl;have h11:=kL { fr k with next:=f.next,aM:=f.aM,busy:=f.busy,av:=f.av,ai:=f.ai,aq:=f.aq,pK:=f.pK,pA:=f.pA,pB:=f.pB,pC:=f.pC,hv:=f.hv } hk h10 { fr k with next:=f.next,aM:=f.aM,busy:=f.busy,av:=f.av,ai:=f.ai,aq:=f.aq,pK:=f.pK,pA:=f.pA,pB:=f.pB,pC:=f.pC,hv:=f.hv,e:=f.e } 11 qf (I f.e) rfl;have e:({ fr k with next:=f.next,aM:=f.aM,busy:=f.busy,av:=f.av,ai:=f.ai,aq:=f.aq,pK:=f.pK,pA:=f.pA,pB:=f.pB,pC:=f.pC,hv:=f.hv,e:=f.e } :Fm)= { f with acts:=(fr k).acts,hs:=(fr k).hs } :=rfl;have e2:(bM C λj=>bf (aL fr k { f with acts:=(fr k).acts,hs:=(fr k).hs } j))=bM C λj=>bf (aL fr k f j):=by
  congr 1
  funext j;unfold aL;split<;>rfl
 rw [e,e2] at h11;exact h11
theorem Ie(w:World)(b k:Nat)(f:Fm){q:Nat}(h:q≠b):(kK w b k f).heap[q]? =w.heap[q]? :=by
 unfold kK;iterate 12 rw [XAN _ _ _ q (by show q≠b;exact h)]
theorem If(hm:Md cl js w w')(hb:b<w.heap.size->cl b∈js)(f:Fm):Md cl js w (kK w' b k f):=by
 unfold kK;iterate 12 refine Md.set ?_ hb _ _
 exact hm
end
end Go.Proofs.YtedefgjfgdcfdaaGreatDoor
