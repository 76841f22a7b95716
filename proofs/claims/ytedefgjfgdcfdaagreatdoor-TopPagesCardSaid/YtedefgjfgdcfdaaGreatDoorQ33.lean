/- Walks and laws for TopPages. -/
import Derived.Test.YtedefgjfgdcfdaaGreatDoorQ32
namespace Go.Proofs.YtedefgjfgdcfdaaGreatDoor
open Go.RowKit Go.Proofs.Tryz
set_option maxRecDepth 100000
set_option maxHeartbeats 4000000
section
variable{A:KA}{M M1:KS}{w w':World}{i k p nx:Nat}{aM:Int}
structure sV(A:KA)(M:KS)(p nx:Nat)(w w':World)(f:Fm):Prop where
 km:KM A w' M
 fp:Fp M.cl w' p f
 kf:KF [p] M.cl M.cl w w'
 nx:f.next=nx
 bu:f.busy=true
 e:f.e=0
 ac:∀a∈f.acts,dn M.cs.length M.hs.length M.tn M.G a
 hh:∀h∈f.hs,h<M.hs.length
 new:∀g,f.av.ownBlock=some g->w.heap.size<=g
 nT:∀g,f.hv.ownBlock=some g->w.heap.size<=g
structure du(A:KA)(M:KS)(p:Nat)(w W:World)(cs:Array Value)(va:Value)(na:Nat)(xa:List Value)(vh:Value)(nh:Nat)(xh:List Value):Prop where
 km:KM A W M
 blk:ak W p 159 cs
 p0:M.cl p=0
 ra:Own M.cl 0 W 20 1 va na xa
 rh:Own M.cl 0 W 3 1 vh nh xh
 kf:KF [p] M.cl M.cl w W
 new:∀g,va.ownBlock=some g->w.heap.size<=g
 nT:∀g,vh.ownBlock=some g->w.heap.size<=g
section
variable{W W' w3:World}{cs:Array Value}{va vh:Value}{na nh n g cap:Nat}{xa xh xs:List Value}
theorem du.below(h:du A M p w W cs va na xa vh nh xh)(hb:Below W W W'):du A M p w W' cs va na xa vh nh xh:=⟨h.km.below hb,h.blk.below hb,h.p0,h.ra.below hb,h.rh.below hb,h.kf.trans (KF.below [p] _ hb),h.new,h.nT⟩
theorem du.drew(h:du A M p w W cs va na xa vh nh xh):du A M p w W.drew cs va na xa vh nh xh:=h.below (XAC _ _).drew
theorem du.alloc(h:du A M p w W cs va na xa vh nh xh)(o:Obj):du A M p w (W.alloc o) cs va na xa vh nh xh:=h.below ((XAC _ _).alloc (XAB _) _)
theorem du.set(h:du A M p w W cs va na xa vh nh xh)(j:Nat)(u:Value):du A M p w (W.setCell (p,j) u) (cs.setIfInBounds j u) va na xa vh nh xh:=by
 have hs:∀{e:TypeId}{size n:Nat}{v:Value}{xs:List Value},Own M.cl 0 W e size v n xs->e≠159->Own M.cl 0 (W.setCell (p,j) u) e size v n xs:=λho ht=>
  ⟨cM ho.1 λg hg=>XAN W _ _ g (λe=>own_ne ho.1 h.blk ht (by rw [hg];exact XAK some e)),λg hg=>⟨qis,(ho.2 g hg).2⟩⟩
 exact⟨h.km.far (p:=⟨p,j,none⟩) h.p0 u,h.blk.aJ j u,h.p0,hs h.ra qf,hs h.rh qf,h.kf.trans ⟨R,R,R,qbt,λ_ _ _ h=>h,λq _ hq _=>XAN W _ _ q qin⟩,h.new,h.nT⟩
theorem KF.grown(hk:KF [p] M.cl M.cl w W){v:Value}(hn:∀g,v.ownBlock=some g->w.heap.size<=g)(hg:W.grownBy w3 v.ownBlock):KF [p] M.cl M.cl w w3:=
 ⟨hg.os.trans hk.os,hg.tape.trans hk.tape,hg.output.trans hk.output,XAL hk.size hg.size,hk.cls,λq hq hx h0=>(hg.block q (XAH hq hk.size) λe=>by have:=hn q e.symm;omega).trans (hk.blk q hq hx h0)⟩
theorem du.Vw(h:du A M p w W cs va na xa vh nh xh)(ho3:w3.ownsRow 0 20 1 (.slice (g,0) n cap) n xs)(hg:W.grownBy w3 va.ownBlock)(hq:some g=va.ownBlock\/g=W.heap.size):
  du A M p w w3 cs (.slice (g,0) n cap) n xs vh nh xh/\∀k v,ak W k 3 #[v]->ak w3 k 3 #[v]:=by
 have hm:Md M.cl [0] W w3:=(Md.refl M.cl [0] W).grown hg λg' hg' _=>by rw [(h.ra.2 g' hg').2];simp
 have hs:=h.kf.size;refine⟨⟨h.km.zero hm,(hg.block p h.blk.lt λe=>own_ne h.ra.1 h.blk qf e.symm).trans h.blk,h.p0,⟨ho3,λg' hg'=>?_⟩,⟨cM h.rh.1 λg' hg'=>hg.block g' (h.rh.2 g' hg').1 λe=>zj h.rh.1 h.ra.1 qf hg' e.symm,λg' hg'=>⟨XAH (h.rh.2 g' hg').1 hg.size,(h.rh.2 g' hg').2⟩⟩,KF.grown h.kf h.new hg,λg' hg'=>?_,h.nT⟩,λk v hb=>(hg.block k hb.lt λe=>own_ne h.ra.1 hb qf e.symm).trans hb⟩
 .have:g=g':=by simpa [Value.ownBlock] using hg'
  subst this;refine⟨cO ho3 R,?_⟩;rcases hq with e|e
  .exact(h.ra.2 g e.symm).2
  .exact h.km.new g qd
 .have:g=g':=by simpa [Value.ownBlock] using hg'
  subst this;rcases hq with e|e
  .exact h.new g e.symm
  .omega
theorem du.Vx(h:du A M p w W cs va na xa vh nh xh)(ho3:w3.ownsRow 0 3 1 (.slice (g,0) n cap) n xs)(hg:W.grownBy w3 vh.ownBlock)(hq:some g=vh.ownBlock\/g=W.heap.size):
  du A M p w w3 cs va na xa (.slice (g,0) n cap) n xs/\∀k v,ak W k 20 #[v]->ak w3 k 20 #[v]:=by
 have hm:Md M.cl [0] W w3:=(Md.refl M.cl [0] W).grown hg λg' hg' _=>by rw [(h.rh.2 g' hg').2];simp
 have hs:=h.kf.size;refine⟨⟨h.km.zero hm,(hg.block p h.blk.lt λe=>own_ne h.rh.1 h.blk qf e.symm).trans h.blk,h.p0,⟨cM h.ra.1 λg' hg'=>hg.block g' (h.ra.2 g' hg').1 λe=>zj h.ra.1 h.rh.1 qf hg' e.symm,λg' hg'=>⟨XAH (h.ra.2 g' hg').1 hg.size,(h.ra.2 g' hg').2⟩⟩,⟨ho3,λg' hg'=>?_⟩,KF.grown h.kf h.nT hg,h.new,λg' hg'=>?_⟩,λk v hb=>(hg.block k hb.lt λe=>own_ne h.rh.1 hb qf e.symm).trans hb⟩
 .have:g=g':=by simpa [Value.ownBlock] using hg'
  subst this;refine⟨cO ho3 R,?_⟩;rcases hq with e|e
  .exact(h.rh.2 g e.symm).2
  .exact h.km.new g qd
 .have:g=g':=by simpa [Value.ownBlock] using hg'
  subst this;rcases hq with e|e
  .exact h.nT g e.symm
  .omega
theorem Reads.one{t:TypeId}{k:Nat}{v:Value}(hB:ak W k t #[v]):Reads W W.heap.size 1 (some ⟨k,0,none⟩) 1 [v]:=⟨R,λ_=>⟨_,R,hB.lt,λj u hu=>by
 have:(⟨k,0,none⟩:Addr).add j=⟨k,j,none⟩:=qib
 rw [this,hB.cell,<-XBO];exact hu⟩⟩
theorem du.az{f:Fm}{wr:World}{sA sB:Value}{j x:Nat}(hI:sV A M p nx w wr f)(ha:f.acts.length=j)(hh:f.hs.length=j)(hx:x<M.hs.length)(h:du A M p w W cs sA (j+1) (f.acts.map aF++ [aF ⟨176,5,x,0,0⟩]) sB (j+1) (f.hs.map nV++ [nV x]))(hcs:cs=(bf f).toArray):
  sV A M p nx w ((W.setCell (p,3) sA).setCell (p,10) sB) { f with av:=sA,acts:=f.acts++ [⟨176,5,x,0,0⟩],hv:=sB,hs:=f.hs++ [x] } :=by
 have h1:=(h.set 3 sA).set 10 sB;have hb:=h1.blk;rw [hcs] at hb;refine⟨h1.km,⟨hb,h1.p0,?_,?_⟩,h1.kf,hI.nx,hI.bu,hI.e,λa ha'=>?_,λa ha'=>?_,h1.new,h1.nT⟩
 .have:=h1.ra;rw [<-ha] at this;show Own M.cl 0 _ _ 1 sA (f.acts++ [_]).length ((f.acts++ [_]).map aF);rw [XAZ,XBB];exact this
 .have:=h1.rh;rw [<-hh] at this;show Own M.cl 0 _ _ 1 sB (f.hs++ [x]).length ((f.hs++ [x]).map nV);rw [XAZ,XBB];exact this
 .rcases XAe.1 ha' with h2|h2
  .exact hI.ac a h2
  .simp at h2;subst h2;exact .inr (.inr ⟨R,by show(0:Int)<=(x:Int);omega,λ_=>(by show(x:Int)<_;omega),λh=>absurd R h⟩)
 .rcases XAe.1 ha' with h2|h2
  .exact hI.hh a h2
  .simp at h2;subst h2;exact hx
theorem Sj{A:World->Prop}{G:Prop}{P:Nat->Nat->Nat->Nat->Nat->Nat->World->Prop}(main:(∀x y z u s t v,A v->P x y z u s t v)->G)(next:∀x y z u s t v,A v->P x y z u s t v):G:=main next
theorem LB{ops:Array Oper}{o:Oper}{a:Act}{K:Act->World->Prop}{Q:Exit->Act->World->Prop}{ag:Prop}(hgd:o.guard=none)(s x:Operand)(ho:o.op=.call { callee:=.builtin .append,args:=#[s,x],argTypes:=#[155,155] })
 (hS:du A M p w W cs va n xa vh nh xh)(hs:a.eval s=va)(ac:Ac)(hxb:∃kA,a.eval x=.slice (some ⟨kA,0,none⟩) 1 1/\ak W kA 20 #[aF ac])(hn:n+1<=1000000)
 (h:∀g cap w3,du A M p w w3 cs (.slice (some ⟨g,0,none⟩) (n+1) cap) (n+1) (xa++ [aF ac]) vh nh xh/\(∀k v,ak W k 3 #[v]->ak w3 k 3 #[v])->K (a.put o.dst (.slice (g,0) (n+1) cap)) w3):
  if Region.wanted o (yielded ops a.tmps)=true then Oper.wp prog o a W K Q else ag:=by
 obtain⟨kA,hx,hB⟩:=hxb;refine iS gg R qf fV hgd s x ho va n xa hs hS.ra.1 (some ⟨kA,0,none⟩) 1 1 [aF ac] hx (Reads.one hB) qk hn qf qd ?_;intro g cap w3 ho3 hg3 hq3;exact h g cap w3 (hS.Vw ho3 hg3 hq3)
theorem LC{ops:Array Oper}{o:Oper}{a:Act}{K:Act->World->Prop}{Q:Exit->Act->World->Prop}{ag:Prop}(hgd:o.guard=none)(s x:Operand)(ho:o.op=.call { callee:=.builtin .append,args:=#[s,x],argTypes:=#[25,25] })
 (hS:du A M p w W cs va na xa vh n xh)(hs:a.eval s=vh)(z:Int)(hxb:∃kA,a.eval x=.slice (some ⟨kA,0,none⟩) 1 1/\ak W kA 3 #[I z])(hn:n+1<=1000000)
 (h:∀g cap w3,du A M p w w3 cs va na xa (.slice (some ⟨g,0,none⟩) (n+1) cap) (n+1) (xh++ [I z])/\(∀k v,ak W k 20 #[v]->ak w3 k 20 #[v])->K (a.put o.dst (.slice (g,0) (n+1) cap)) w3):
  if Region.wanted o (yielded ops a.tmps)=true then Oper.wp prog o a W K Q else ag:=by
 obtain⟨kA,hx,hB⟩:=hxb;refine iS nP R qf sk hgd s x ho vh n xh hs hS.rh.1 (some ⟨kA,0,none⟩) 1 1 [I z] hx (Reads.one hB) qk hn qf qd ?_;intro g cap w3 ho3 hg3 hq3;exact h g cap w3 (hS.Vx ho3 hg3 hq3)
end
theorem Vs{w5 w6:World}{B1:Option Addr}{m c1 n:Nat}{l:List Ac}(hk:KM A w6 M)(hp:Fp M.cl w6 p (gM nx aM))(hl:l.length=m)(ho:w6.ownsRow w5.heap.size 20 1 (.slice B1 m c1) m (l.map aF))(h0:∀g,w5.heap.size<=g->M.cl g=0)(kf:KF [] M.cl M.cl w5 w6):
  KM A (((w6.setCell (p,3) (.slice B1 m c1)).setCell (p,10) (.slice (w6.heap.size,0) 1 1)).alloc (.cells #[I n] 3)) M/\
   Fp M.cl (((w6.setCell (p,3) (.slice B1 m c1)).setCell (p,10) (.slice (w6.heap.size,0) 1 1)).alloc (.cells #[I n] 3)) p { gM nx aM with av:=.slice B1 m c1,acts:=l,hv:=.slice (some ⟨w6.heap.size,0,none⟩) 1 1,hs:= [n] } /\
   KF [p] M.cl M.cl w5 (((w6.setCell (p,3) (.slice B1 m c1)).setCell (p,10) (.slice (w6.heap.size,0) 1 1)).alloc (.cells #[I n] 3)):=by
 have hb:Below w6 w6 (w6.alloc (.cells #[I n] 3)):=(XAC _ _).alloc (XAB _) _;have hkx:KF [p] M.cl M.cl w5 w6:=⟨kf.os,kf.tape,kf.output,kf.size,λq h1 _ h2=>kf.cls q h1 ql h2,λq h1 _ h2=>kf.blk q h1 ql h2⟩;have hs:du A M p w5 (w6.alloc (.cells #[I n] 3)) (bf (gM nx aM)).toArray (.slice B1 m c1) m (l.map aF) (.slice (w6.heap.size,0) 1 1) 1 [nV n]:=
  ⟨hk.below hb,hp.blk.below hb,hp.p0,Own.below ⟨(own_base ho).1,λg hg=>⟨cO (own_base ho).1 hg,h0 g ((own_base ho).2 g hg)⟩⟩ hb,⟨⟨R,.inr ⟨w6.heap.size,1,#[nV n],R,XAJ _,heap_alloc_new w6 _,XAB _,qf,R,R⟩⟩,λg hg=>by
   have:w6.heap.size=g:=qcp
   subst this
   exact⟨ql,hk.new _ (XAB _)⟩⟩,hkx.trans (KF.below [p] _ hb),(own_base ho).2,λg hg=>by
   have:w6.heap.size=g:=qcp
   subst this
   exact kf.size⟩
 have h1:=(hs.set 3 (.slice B1 m c1)).set 10 (.slice (some ⟨w6.heap.size,0,none⟩) 1 1);rw [XD9 _ _ _ _ hp.blk.lt,XD9 _ _ _ _ (by simpa [World.setCell] using hp.blk.lt)] at h1;refine⟨h1.km,⟨h1.blk,h1.p0,?_,h1.rh⟩,h1.kf⟩;show Own M.cl 0 _ _ 1 _ l.length (l.map aF);rw [hl];exact h1.ra
def Of(A:KA)(M:KS)(p nx:Nat)(o:Int)(w:World)(e:Ending)(w':World):Prop:=
 e=.returned (.tuple #[])/\∃M' f,ky A M M' p nx w w' f/\
  (o=2->∀y,M.hs= [y]->y.out=true->y.gr=0->M'.cs=M.cs/\M'.hs= [gk y]/\M'.T=M.T/\M'.gr=M.gr/\f.e=0/\f.hs= [0]/\∃z,f.acts= [⟨173,3,2,y.ca,z⟩]/\(0<=y.sl->y.sl<=1000->0<=y.ob->y.ob<=1000->z=16*y.sl+y.ob))
theorem Dn(h:KM A w M)(hs:M.s<=30000)(hp:Fp M.cl w p (gM nx aM))(o a b c:Int):Z 81 #[(A.kb,0),.pointer (p,0),.agg #[I o,I a,I b,I c]] w (Of A M p nx o w):=by
 have HC:=XAA h;have HP:=XAA hp;have hz0:M.cl w.heap.size=0:=h.new _ (XAB _);obtain⟨B,cap,hv,hcap⟩:=Own.slice (show Own _ 9 w 68 5 M.hv M.hs.length (M.hs.flatMap cB) from h.hs);obtain⟨L,hL⟩:=Xq M.hs.length;have hL6:L<=900000:=qja
 rw [hL] at hv hcap;have HV:=XAA hv;have HL:=XAA hL;clear h hv hL hp;go_enter func81,ntmps81;go_upto_region 1 with fail
 refine bg (λW hW=>?_);have hcb:ak W w.heap.size 63 #[I o,I a,I b,I c]:=qdt
 have HB0:Hid (Below w w W):=XAA qbq;have bP:=XAA (HC.out.below HB0.out);have ke:=XAA (HP.out.below HB0.out);have dD:Hid (KF [p] M.cl M.cl w W):=XAA (KF.below [p] _ HB0.out);have y0:W.cell? (w.heap.size,0)=I o:=hcb.cell 0;have y1:W.cell? (w.heap.size,1)=I a:=hcb.cell 1;have y2:W.cell? (w.heap.size,2)=I b:=hcb.cell 2;have y3:W.cell? (w.heap.size,3)=I c:=hcb.cell 3;have ylt:=hcb.lt;have k28:=bP.out.rd.k28;rw [HV.out] at k28;have a8:=bP.out.rd.lt;clear hW hcb;rcases (by cases(o !=4)<;>simp:(o !=4)=true\/(o !=4)=false) with q1|q1
 .have HO:Hid (o≠4):=XAA qct;have Ng:=XAA (XY bP.out hs o a b c);go_upto_region 4 with(go_at_call 124;(refine Ng.out.mono ?_);rintro e w5 ⟨r,er,rfl,hb5,dX,hx5⟩;have bV:=XAA hb5;have fk:=XAA dX;have uZ:=XAA hx5;clear hb5 dX hx5)
  have bm:=XAA (bP.out.below bV.out);have fj:=XAA (ke.out.below bV.out);have ma:=XAA (dD.out.trans (KF.below [p] _ bV.out));have p11:w5.cell? (p,11)=I 0:=fj.out.blk.cell 11;have DO:=fj.out.blk.frozen 11;have b6:=fj.out.blk.lt;clear y0 y1 y2 y3 ylt k28 a8;rcases (by cases(er !=0)<;>simp:(er !=0)=true\/(er !=0)=false) with q2|q2
  .have HE:Hid (er≠0):=XAA qcu;go_wp2;(first|go_end0|refine Xe ?_);obtain⟨e1,e2,e3⟩:=Fp.fe bm.out fj.out er;exact⟨rfl,M,_,⟨e1,e2,ma.out.trans e3,rfl,rfl,λa ha=>qdh,XAJ _,XAJ _,λh hh=>qjk,R,R,qd,R,λg hg=>qce,λg hg=>qce⟩,λh y hy ho _=>absurd (uZ.out h y hy ho).2 HE.out⟩
  .by_cases hr0:r<0
   .go_wp2;(first|go_end0|refine Xe ?_);obtain⟨e1,e2,e3⟩:=Fp.fe bm.out fj.out 270;exact⟨rfl,M,_,⟨e1,e2,ma.out.trans e3,rfl,rfl,λa ha=>qdh,XAJ _,XAJ _,λh hh=>qjk,R,R,qd,R,λg hg=>qce,λg hg=>qce⟩,λh y hy ho _=>(by have:=(uZ.out h y hy ho).1;omega)⟩
   .obtain⟨n,rfl,hnl⟩:∃n:Nat,r=n/\n<M.hs.length:=by rcases fk.out with h|h;exact absurd h hr0;exact h
    obtain⟨y,hy⟩:∃y,M.hs[n]? =some y:=⟨_,XAO hnl⟩;have HY:=XAA hy;have oA:=XAA (JX bm.out hy);have Nq:=XAA hnl;clear hy p11 DO b6 hr0 hnl;go_wp2_with (go_at_call 77;(refine oA.out.mono ?_);rintro e w6 ⟨B1,c1,m,l,f1,rfl,hl,cD,hk6,Dg,FU,hm2,hm0,hx6⟩;have cG:=XAA hk6;have HF6:=XAA Dg;have Fb:=XAA cD;have MP:=XAA FU;have E5:=XAA hl;have xL:=XAA hx6;have jK:=fj.out.kf Dg;have xD:=XAA jK;have p3:w6.cell? (p,3)=some (.slice none 0 0):=jK.blk.cell 3;have p10:w6.cell? (p,10)=some (.slice none 0 0):=jK.blk.cell 10;have pf3:=jK.blk.frozen 3;have adL:=jK.blk.frozen 10;have b6:=jK.blk.lt;clear hk6 Dg cD FU hl hx6 jK);(first|go_end0|refine Xe ?_);obtain⟨e1,e2,e3⟩:=Vs (n:=n) cG.out xD.out E5.out Fb.out (λg hg=>bm.out.new g hg) HF6.out;refine⟨R,KI M n y f1,{ gM nx aM with av:=.slice B1 m c1,acts:=l,hv:=.slice (some ⟨w6.heap.size,0,none⟩) 1 1,hs:= [n] },⟨e1,e2,ma.out.trans e3,R,R,?_,by show l.length<=24;rw [E5.out];omega,by show 1<=8;omega,λh hh=>?_,R,R,qeo,by show(M.hs.set n (gk y)).length=_;simp,λg hg=>XAL (XAL HB0.out.size bV.out.size) ((own_base Fb.out).2 g hg),λg hg=>?_⟩,λh z hz ho hg=>?_⟩
    .intro q hq;have:=MP.out q hq;show dn M.cs.length (M.hs.set n (gk y)).length M.tn M.G q;rw [XAk];exact this
    .have:h=n:=by simpa using hh
     subst this;show h<(M.hs.set h (gk y)).length;rw [XAk];exact Nq.out
    .have:w6.heap.size=g:=by simpa [Value.ownBlock] using hg
     subst this;exact XAL (XAL HB0.out.size bV.out.size) HF6.out.size
    .obtain⟨h1,h2⟩:=uZ.out h z hz ho;have h3:n=0:=by omega
     subst h3;have h4:=HY.out;rw [hz] at h4;have h5:z=y:=by simpa using h4
     subst h5;obtain⟨q,h6,h7⟩:=xL.out hg;exact⟨R,(by show M.hs.set 0 (gk z)=_;rw [hz];rfl),R,R,R,R,q,h6,h7⟩
 .have HO:Hid (o=4):=XAA qct;rcases XAr L with l0|l0
  .have l1:((L:Int)==0)=true:=by simp;omega
   have p11:W.cell? (p,11)=I 0:=ke.out.blk.cell 11;have cX:=ke.out.blk.frozen 11;have b6:=ke.out.blk.lt;go_wp2;(first|go_end0|refine Xe ?_);obtain⟨e1,e2,e3⟩:=Fp.fe bP.out ke.out 270;exact⟨rfl,M,_,⟨e1,e2,dD.out.trans e3,rfl,rfl,λa ha=>qdh,XAJ _,XAJ _,λh hh=>qjk,R,R,qd,R,λg hg=>qce,λg hg=>qce⟩,λh=>qjl⟩
  .have l1:((L:Int)==0)=false:=by simp;omega
   obtain⟨n,hn⟩:∃n:Nat,(n:Int)=a % (L:Int):=⟨(a % (L:Int)).toNat,qfo⟩;have hnl:n<L:=qez
   have HW:Hid (∀W,Z 118 #[I a,I L] W λe w'=>e=.returned (I n)/\w'=W):=XAA λW=>(lM a L qd qd W).mono λe w' ⟨h1,h2⟩=>⟨by rw [h1,hn],h2⟩;clear hn;go_wp2_with (go_at_call 118;refine Xr (HW.out _) ?_);have hpw:=HP.out.blk.lt;have HI0:Hid (sV A M p nx W W (gM nx aM)):=XAA ⟨bP.out,ke.out,KF.refl _ _ _,R,R,R,λa ha=>qdh,λa ha=>qdh,λg hg=>qce,λg hg=>qce⟩;obtain⟨t,ht⟩:∃t:Nat,(t:Int)=b % 8:=⟨(b % 8).toNat,qd⟩;have ht7:t<=7:=qd
   have HT:Hid (∀W,Z 118 #[I b,I 8] W λe w'=>e=.returned (I t)/\w'=W):=XAA λW=>(lM b 8 qd qd W).mono λe w' ⟨h1,h2⟩=>⟨by rw [h1,ht],h2⟩;clear ht HW k28 a8 y0 y1 y3 l1;go_loopw [10] (λz wr=>∃(j:Nat)(f:Fm),z=I ((n+j:Nat):Int)/\n+j<=L/\sV A M p nx W wr f/\f.acts.length=j/\f.hs.length=j/\j<=8) (λz _=>L-(intOf z).toNat)
   case atStart=>exact⟨0,_,R,qd,HI0.out,R,R,qd⟩
   case round=>
    obtain⟨j,f,rfl,I_,hI,ha,hh,Wb⟩:=hrel;have z2:wr.cell? (w.heap.size,2)=I b:=(XAP (w:=W) (a:=⟨w.heap.size,2,none⟩) (hI.kf.blk _ ylt qj hz0)).trans y2;have gv:=XAH ylt hI.kf.size;have Wo:=hI.fp.blk.lt;have HI:=XAA hI;have HA:=XAA ha;have HH:=XAA hh;obtain⟨x,hx⟩:=Xq (n+j);rw [hx] at I_ ⊢;have ti:=XAA hx;clear hI ha hh hx;by_cases hc:x<L/\x<n+1+t
    .have b1:(x:Int)<min (L:Int) ((n:Int)+1+(t:Int)):=by omega
     have hjt:j<8:=by have:=ti.out;omega
     go_upto_region 15 with(go_at_call 118;refine Xr (HT.out _) ?_)
     obtain⟨B1,c1,hav,-⟩:=Own.slice HI.out.fp.av;obtain⟨B2,c2,gS,-⟩:=Own.slice HI.out.fp.hv;obtain⟨sn,fr,bu,av,acts,ai,aq,pK,pA,pB,pC,fhv,im,e⟩:=f;dsimp only at hav gS;subst hav gS;have hA:=HA.out;have hH:=HH.out;dsimp only at hA hH;obtain⟨cs,hcs⟩:=Xq (#[nV sn,I fr,.bool bu,.slice B1 j c1,I ai,I aq,I pK,I pA,I pB,I pC,.slice B2 j c2,I e]);have HS:Hid (du A M p W wr cs (.slice B1 j c1) j (acts.map aF) (.slice B2 j c2) j (im.map nV)):=XAA (by
      have h9:=HI.out.fp.blk
      have h8:=HI.out.fp.av
      have h7:=HI.out.fp.hv
      dsimp only [bf] at h9 h8 h7
      rw [hA] at h9 h8
      rw [hH] at h9 h7
      exact⟨HI.out.km,by rw [<-hcs];exact h9,HI.out.fp.p0,h8,h7,HI.out.kf,by have:=HI.out.new;dsimp only at this;rw [hA] at this;exact this,by have:=HI.out.nT;dsimp only at this;rw [hH] at this;exact this⟩)
     have s3:wr.cell? (p,3)=some (.slice B1 j c1):=by rw [HS.out.blk.cell 3,<-hcs];rfl
     have s10:wr.cell? (p,10)=some (.slice B2 j c2):=by rw [HS.out.blk.cell 10,<-hcs];rfl
     have f3:=HS.out.blk.frozen 3;have f10:=HS.out.blk.frozen 10;have HCS:=XAA hcs;have bL:Hid (cs[3]? =some (.slice B1 j c1)):=XAA (by rw [<-hcs];rfl);have xp:Hid (cs[10]? =some (.slice B2 j c2)):=XAA (by rw [<-hcs];rfl);have ES:Hid (∀(z:World)(sA sB:Value),du A M p W z cs sA (j+1) (acts.map aF++ [aF ⟨176,5,x,0,0⟩]) sB (j+1) (im.map nV++ [nV x])->∃f5,sV A M p nx W ((z.setCell (p,3) sA).setCell (p,10) sB) f5/\f5.acts.length=j+1/\f5.hs.length=j+1):=XAA λz sA sB h=>⟨_,du.az HI.out hA hH (by have:=HL.out;omega) h (by rw [<-hcs];dsimp only [bf];rw [hA,hH]),by show(acts++_).length=_;rw [XAZ,hA];rfl,by show(im++_).length=_;rw [XAZ,hH];rfl⟩;clear hA hH hcs;apply Sj (A:=λw5=>∃f5,sV A M p nx W w5 f5/\f5.acts.length=j+1/\f5.hs.length=j+1)
     .intro hnext;have fg:=hnext;clear hnext
      go_region_law (first
        |(refine LB (A:=A) (M:=M) (p:=p) (w:=W) (cs:=cs) (va:=.slice B1 j c1) (n:=j) (xa:=acts.map aF) (vh:=.slice (some ⟨g4,0,none⟩) (j+1) cap4) (nh:=j+1) (xh:=im.map nV++ [I x]) R (.tmp 76) (.tmp 80) R qs qu ⟨176,5,x,0,0⟩ qq qd ?_;rintro g3 cap3 w3 ⟨hg3,ht3⟩;have HG:=XAA hg3;have HT3:=XAA ht3;have hy:=hg3.blk.cell 10;rw [xp.out] at hy;have hy':=hg3.blk.cell 3;rw [bL.out] at hy';have hz:=hg3.blk.frozen 3;have hz':=hg3.blk.frozen 10;have hlt3:=hg3.blk.lt;clear hg3 ht3)
        |(refine LB (A:=A) (M:=M) (p:=p) (w:=W) (cs:=cs) (va:=.slice B1 j c1) (n:=j) (xa:=acts.map aF) (vh:=.slice B2 j c2) (nh:=j) (xh:=im.map nV) R (.tmp 76) (.tmp 80) R qs qu ⟨176,5,x,0,0⟩ qq qd ?_;rintro g3 cap3 w3 ⟨hg3,ht3⟩;have HG:=XAA hg3;have HT3:=XAA ht3;have hy:=hg3.blk.cell 10;rw [xp.out] at hy;have hy':=hg3.blk.cell 3;rw [bL.out] at hy';have hz:=hg3.blk.frozen 3;have hz':=hg3.blk.frozen 10;have hlt3:=hg3.blk.lt;clear hg3 ht3)
        |(refine LC (A:=A) (M:=M) (p:=p) (w:=W) (cs:=cs) (vh:=.slice B2 j c2) (n:=j) (xh:=im.map nV) (va:=.slice (some ⟨g3,0,none⟩) (j+1) cap3) (na:=j+1) (xa:=acts.map aF++ [aF ⟨176,5,x,0,0⟩]) R (.tmp 85) (.tmp 87) R qs qu (x:Int) qq qd ?_;rintro g4 cap4 w4 ⟨hg4,pj⟩;have s_:=XAA hg4;have HT4:=XAA pj;have hy4:=hg4.blk.cell 3;rw [bL.out] at hy4;have C5:=hg4.blk.cell 10;rw [xp.out] at C5;have py:=hg4.blk.frozen 3;have Wz:=hg4.blk.frozen 10;have hlt4:=hg4.blk.lt;clear hg4 pj)
        |(refine LC (A:=A) (M:=M) (p:=p) (w:=W) (cs:=cs) (vh:=.slice B2 j c2) (n:=j) (xh:=im.map nV) (va:=.slice B1 j c1) (na:=j) (xa:=acts.map aF) R (.tmp 85) (.tmp 87) R qs qu (x:Int) qq qd ?_;rintro g4 cap4 w4 ⟨hg4,pj⟩;have s_:=XAA hg4;have HT4:=XAA pj;have hy4:=hg4.blk.cell 3;rw [bL.out] at hy4;have C5:=hg4.blk.cell 10;rw [xp.out] at C5;have py:=hg4.blk.frozen 3;have Wz:=hg4.blk.frozen 10;have hlt4:=hg4.blk.lt;clear hg4 pj))
      all_goals first
       |(have h7:=ES.out w3 _ _ HG.out;generalize (w3.setCell (p,3) (.slice (g3,0) (j+1) cap3)).setCell (p,10) (.slice (g4,0) (j+1) cap4)=w5 at h7 ⊢;(first|(generalize wr.heap.size+1=kb;generalize wr.heap.size=ka;first|exact fg g3 cap3 g4 cap4 ka kb w5 h7|exact fg g3 cap3 g4 cap4 kb ka w5 h7)|(generalize w3.heap.size=kb;generalize wr.heap.size=ka;first|exact fg g3 cap3 g4 cap4 ka kb w5 h7|exact fg g3 cap3 g4 cap4 kb ka w5 h7)|(generalize w4.heap.size=kb;generalize wr.heap.size=ka;first|exact fg g3 cap3 g4 cap4 ka kb w5 h7|exact fg g3 cap3 g4 cap4 kb ka w5 h7)))
       |(have h7:=ES.out w4 _ _ s_.out;generalize (w4.setCell (p,3) (.slice (g3,0) (j+1) cap3)).setCell (p,10) (.slice (g4,0) (j+1) cap4)=w5 at h7 ⊢;(first|(generalize wr.heap.size+1=kb;generalize wr.heap.size=ka;first|exact fg g3 cap3 g4 cap4 ka kb w5 h7|exact fg g3 cap3 g4 cap4 kb ka w5 h7)|(generalize w3.heap.size=kb;generalize wr.heap.size=ka;first|exact fg g3 cap3 g4 cap4 ka kb w5 h7|exact fg g3 cap3 g4 cap4 kb ka w5 h7)|(generalize w4.heap.size=kb;generalize wr.heap.size=ka;first|exact fg g3 cap3 g4 cap4 ka kb w5 h7|exact fg g3 cap3 g4 cap4 kb ka w5 h7)))
     .rintro g3 cap3 g4 cap4- -w5 ⟨f5,h5,II,hh5⟩;have H5:=XAA h5;have MO:=XAA II;have Nh:=XAA hh5;have hx1:IntKind.i64.wrap ((x:Int)+1)=((x+1:Nat):Int):=by rw [XAM _ qd];omega
      clear h5 II hh5 s3 s10 f3 f10;go_wp2;go_roundw
      case rel=>exact⟨j+1,f5,by rw [show n+(j+1)=x+1 by have:=ti.out;omega];go_num,by have:=ti.out;omega,H5.out,MO.out,Nh.out,qd⟩
      case measure=>simp [intOf];omega
    .have b1:¬(x:Int)<min (L:Int) ((n:Int)+1+(t:Int)):=by omega
     go_wp2_with (go_at_call 118;refine Xr (HT.out _) ?_);(first|go_end0|refine Xe ?_);have h9:=HI.out;exact⟨rfl,M,f,⟨h9.km,h9.fp,dD.out.trans h9.kf,h9.nx,h9.bu,h9.ac,by rw [HA.out];omega,by rw [HH.out];omega,h9.hh,rfl,rfl,qd,rfl,λg hg=>XAL HB0.out.size (h9.new g hg),λg hg=>XAL HB0.out.size (h9.nT g hg)⟩,λh=>qjl⟩
end
end Go.Proofs.YtedefgjfgdcfdaaGreatDoor
