/- Walks and laws for TopPages. -/
import Derived.Test.YtedefgjfgdcfdaaGreatDoorQ16
namespace Go.Proofs.YtedefgjfgdcfdaaGreatDoor
open Go.RowKit Go.Proofs.Tryz
set_option maxRecDepth 100000
set_option maxHeartbeats 4000000
section
open Go.Shelf
attribute [local go_sem] Oper.semAt_some
theorem ZI{β:Type}{gs:List Nat}{B:Nat}{w0:World}(hB:w0.heap.size<=B):OwnFrom B (λ(_:β) W=>Rws gs w0 W):=
 λ_ W W' row hs hg hr=>⟨hg.os.trans hs.os,hg.tape.trans hs.tape,hg.output.trans hs.output,XAL hs.size hg.size,λk hk h1=>(hg.block k (XAH hk hs.size) (λe=>by have:=(hr k e.symm).1;omega)).trans (hs.block k hk h1)⟩
theorem Rws.Zy{gs:List Nat}{w W:World}(h:Rws gs w W)(l:Nat)(o':Obj)(hl:w.heap.size<=l):Rws gs w (W.putObj l o'):=
 ⟨h.os,h.tape,h.output,by simpa [World.putObj] using h.size,λk hk h1=>(World.putObj_heap_other qd).trans (h.block k hk h1)⟩
theorem Rws.WD{g:Nat}{w W:World}(h:Rws [g] w W)(v:Value):Rws [g] w (W.setCell (g,0) v):=
 ⟨h.os,h.tape,h.output,qbj,λk hk h1=>(XAN W _ v k (λe=>h1 (by rw [show k=g from e];exact XA2.2 R))).trans (h.block k hk h1)⟩
theorem Rws.P8{g:List Nat}{w W W':World}(h:Rws g w W)(hb:Below w.heap.size W W'):Rws g w W':=
 ⟨hb.os.trans h.os,hb.tape.trans h.tape,hb.output.trans h.output,XAL h.size hb.size,λk hk h1=>(hb.block k hk).trans (h.block k hk h1)⟩
theorem BD{n0:Nat}(W:World)(l:Nat)(o':Obj)(hl:n0<=l):Below n0 W (W.putObj l o'):=
 ⟨R,R,R,qje,λk hk=>World.putObj_heap_other qd⟩
theorem DK{base:Nat}{w w':World}{e:TypeId}{size n:Nat}{v:Value}{xs:List Value}(h:w.ownsRow base e size v n xs)(hs:∀g,v.ownBlock=some g->w'.heap[g]? =w.heap[g]?):w'.ownsRow base e size v n xs:=by
 obtain⟨h1,h2⟩:=h;refine⟨h1,?_⟩;rcases h2 with h2|⟨g,cap,cur,rfl,h4,h5,h6⟩
 .exact .inl h2
 .exact .inr ⟨g,cap,cur,R,h4,(hs g R).trans h5,h6⟩
def EA(w:World)(S:List Nat->Prop)(Bx:Nat)(e:Ending)(w':World):Prop:=∃v xs,e=.returned v/\S xs/\w'.ownsRow w.heap.size 3 1 v xs.length (xs.map nV)/\Rws [Bx] w w'
section
variable{Kp:World->World->Prop}{S Sp:List Nat->Prop}{N Bx gf:Nat}{lb:Array Value}
theorem RN(w:World)(hseq:oN Fence.wide 8 prog gf lb (λx:Nat=>#[nV x]) Kp S Sp N Bx w)(hN:N<=1000)(hBx:Bx<w.heap.size)(hKt:∀{X af ae:World},Kp X af->Kp af ae->Kp X ae)(hKb:∀W W',Below w.heap.size W W'->Kp W W')
 (eg:∀args w,(callFunc gf args).run prog w=.ok (.enter gf args) w):Z 71 #[.slice none 0 0,.func (.func gf) #[] lb] w (EA w S Bx):=by
 refine(XAp (n:=9)).1 ?_;refine callsIn_of_wp_marks func71 R trivial ?_ rfl;simp only [ntmps71,List.size_toArray,List.length_cons,List.length_nil,Nat.reduceAdd,Nat.reduceSub,Array.replicate_succ,Array.replicate_zero,List.push_toArray,List.append_toArray,List.nil_append,List.cons_append];obtain⟨i0,hi,hz0,hz1,hz2⟩:=XA4 nP
 gi_wp2
 have bO:=Boxed.new w 25 (.slice none 0 0);have hB0:Below w w (w.alloc (.cells #[.slice none 0 0] 25)):=(XAC _ w).alloc (XAB _) _;refine Eg R qd (gf:=gf) (lb:=lb) R trivial eg hseq qj hB0 (λ_=>rfl) (λh k=>hKt h k) (λW l o o' hl _ _ _=>hKb _ _ (BD W l o' (XAL ql hl)))
  (λpre W=>(∃v,Boxed W w.heap.size 25 v/\W.ownsRow w.heap.size 3 1 v pre.length (pre.map nV)/\True)/\Rws [Bx] w W)
  (λ_ _=>False)
  (OwnFrom.and (Own.from (holdsRow_own w.heap.size w.heap.size 25 3 1 (λpre:List Nat=>pre.length) (λpre=>pre.map nV) (λ_ _=>True)) _) (ZI ql))
  (λ_ _ _ _ hs _ _=>hs)
  ?ib
  ⟨⟨_,bO,XBk _ _ _ _,trivial⟩,Rws.of_below [Bx] hB0⟩
  (λx=> { tmps:=#[.slice none 0 0,.func (.func gf) #[] lb,.pointer (w.heap.size,0),undef,.slice none 0 0,nV x,.func (.func gf) #[] lb,nV x,undef,undef,undef,undef,undef],defers:= [] }) ?assign ?body ?done ?stop
 case ib=>
  rintro pre W v ⟨⟨u,hu,hr,-⟩,hR⟩;refine⟨⟨u,hu.other qd v,DK hr λg hg=>XAN W _ v g (by show g≠Bx;have:=own_base hr;have:=this.2 g hg;omega),trivial⟩,hR.WD v⟩
 case assign=>
  intro l x W K hK
  gi_wp2
  exact hK
 case body=>
  rintro l pre x W ⟨⟨v,hv,hrow,-⟩,hR⟩ hlt;have hc:=hv.cell
  gi_wp2_with (gi_at_builtin;refine wpListIn_append_own _ R _ _ 25 R w.heap.size 3 i0 (I 0) 1 8 sk hi hz0 hz1 hz2 R qf _ _ _ R (hrow.alloc _) ⟨W.heap.size,0,none⟩ 1 1 [nV x] R R (cell_one_new _ _ _) qk qw qd (by have:=hR.size;simp;omega) ?_;intro v' w1 hown' hgrow _;obtain⟨g',cap',rfl⟩:=ownsRow_succ hown';obtain⟨hv1,hv2,hr2,hk2,hb2⟩:=hv.appended qf hrow hR.size (XAB _) hown' hgrow;have hc1:=hv1.cell;have hf1:=hv1.frozen)
  exact⟨hk2,hKb _ _ hb2,⟨_,hv2,by simpa using hr2,trivial⟩,hR.P8 hb2⟩
 case done=>
  rintro D ys W hD hS ⟨⟨v,hv,hrow,-⟩,hR⟩ hK;have hc:=hv.cell
  gi_wp2
  refine⟨ql,.inl ⟨_,_,R,run_takeDeferred hK,?_⟩⟩;exact⟨_,results_tmp R _ _ _,v,ys,R,hS,ownsRow_putObj hrow _ hK R,hR.Zy D _ (by simp at hD;omega)⟩
 case stop=>
  rintro D pre W _ _ h _;exact h.elim
theorem GN(w:World)(hseq:oN Fence.wide 8 prog gf lb (λx:Nat=>#[nV x]) Kp S Sp N Bx w)(hN:N<=1000)(hBx:Bx<w.heap.size)(hKt:∀{X af ae:World},Kp X af->Kp af ae->Kp X ae)(hKb:∀W W',Below w.heap.size W W'->Kp W W')
 (eg:∀args w,(callFunc gf args).run prog w=.ok (.enter gf args) w):Z 57 #[.func (.func gf) #[] lb] w (EA w S Bx):=by
 have hc:=XAA (RN w hseq hN hBx hKt hKb eg);clear hseq hKt hKb;go_enter func57,ntmps57;go_wp2_with (go_at_call 71;refine hc.out.mono ?_;rintro e w1 ⟨v,xs,rfl,h1,h2,h3⟩);go_ret;exact⟨v,xs,R,h1,h2,h3⟩
end
end
section
open Go.Shelf
attribute [local go_sem] Oper.semAt_some
def lk(w:World)(g n:Nat)(ah:Nat->Bool):Prop:=aG w g 4 ((List.range n).map λi=>Value.bool (ah i))
theorem lk.at_{w:World}{g n:Nat}{ah:Nat->Bool}(h:lk w g n ah){i:Nat}(hi:i<n):w.cell? (g,i)=some (.bool (ah i)):=h.cell i _ qgy
def dP(n:Nat)(ah:Nat->Bool):List Nat:=(List.range n).filter ah
theorem aaW(n:Nat)(ah:Nat->Bool):dP (n+1) ah=dP n ah++if ah n=true then [n] else []:=by
 unfold dP;rw [XBz,List.filter_append]
 congr 1
 by_cases h:ah n=true<;>simp [h]
theorem Lp(ah:Nat->Bool):∀n,(dP n ah).length<=n
 |n=>by unfold dP;have:=List.length_filter_le ah (List.range n);simpa using this
theorem DV(A:Option Addr)(n c:Nat)(w:World):Z 58 #[.slice A n c] w λe w'=>e=.returned (.func (.func 72) #[] #[(w.heap.size,0)])/\w'=w.alloc (.cells #[.slice A n c] 102):=by
 go_enter func58,ntmps58;go_wp2;go_ret;exact⟨R,R⟩
def OJ(n:Nat)(ah:Nat->Bool)(ab Jx:List Nat->World->Prop)(e:Ending)(W':World):Prop:=(∃v,e=.returned v)/\((∃ys,ys=dP n ah/\ab ys W')\/(∃pre:List Nat,True/\Jx pre W'))
theorem ab_(l B g n c:Nat)(ah:Nat->Bool)(hn:n<=64)(hnc:n<=c)(ab Jx:List Nat->World->Prop)
 (hY:∀pre x W,ab pre W->pre.length<n->YieldAt Fence.wide 7 prog l #[nV x] W λe W'=>(e=.returned (.bool true)/\ab (pre++ [x]) W'/\cV g B W W')\/(e=.returned (.bool false)/\Jx (pre++ [x]) W'))
 (W:World)(hB:W.cell? (B,0)=some (.slice (g,0) n c))(hr:lk W g n ah)(h0:ab [] W):
  CallsIn Fence.wide 8 prog 72 #[.func (.yield l) #[] #[],.pointer (B,0)] W (OJ n ah ab Jx):=by
 refine XDs func72 R trivial ?_ rfl;simp only [ntmps72,List.size_toArray,List.length_cons,List.length_nil,Nat.reduceAdd,Nat.reduceSub,Array.replicate_succ,Array.replicate_zero,List.push_toArray,List.append_toArray,List.nil_append,List.cons_append]
 gi_wp2
 gi_loopw [7] (λi wr=>∃k:Nat,k<=n/\i=I k/\cV g B W wr/\ab (dP k ah) wr) (λi _=>n-(intOf i).toNat)
 case atStart=>exact⟨0,XAJ _,R,cV.refl _ _ _,h0⟩
 case round=>
  obtain⟨k,hk,rfl,hb,hj⟩:=hrel;by_cases hlt:k<n
  .have t1:(k:Int)<(n:Int):=by omega
   have c1:=(XAP (w:=W) (w':=wr) (a:=⟨g,k,none⟩) hb.tab).trans (hr.at_ hlt);have hls:=Lp ah k;have hsu:=aaW k ah;by_cases hR:ah k=true
   .rw [hR] at c1 hsu;rw [XAE rfl] at hsu;have HS:=XAA hsu;clear hsu;obtain⟨fn,tmps,assign,body,hy,VN⟩:=hY (dP k ah) k wr hj qd
    gi_wp2
    refine VN.mono ?_;rintro e W3 (⟨rfl,hJ3,hk3⟩|⟨rfl,hJx3⟩)
    .gi_wp2
     go_roundw
     case rel=>exact⟨k+1,hlt,qbf,hb.trans hk3,by rw [HS.out];exact hJ3⟩
     case measure=>simp [intOf];omega
    .gi_wp2
     refine XAI (XAm R _ _ _) R ?_;exact⟨⟨_,R⟩,.inr ⟨dP k ah++ [k],trivial,hJx3⟩⟩
   .have hR':ah k=false:=by simpa using hR
    rw [hR'] at c1 hsu;rw [XAD qf,XDT] at hsu;have HS:=XAA hsu;clear hsu hR hR'
    gi_wp2
    refine⟨λ_ h=>qck,?_⟩
    gi_wp2
    go_roundw
    case rel=>exact⟨k+1,hlt,qbf,hb,by rw [HS.out];exact hj⟩
    case measure=>simp [intOf];omega
  .obtain rfl:k=n:=by omega
   have t1:¬(k:Int)<(k:Int):=qd
   gi_wp2
   go_end0;exact⟨⟨_,R⟩,.inl ⟨_,R,hj⟩⟩
theorem abj(B g n c:Nat)(ah:Nat->Bool)(w:World)(hn:n<=64)(hnc:n<=c)(hB:w.cell? (B,0)=some (.slice (g,0) n c))(hBw:B<w.heap.size)(hr:lk w g n ah):
  SeqStopsK Fence.wide 8 prog 72 #[(B,0)] (λx:Nat=>#[nV x]) (cV g B) (λys=>ys=dP n ah) (λ_=>True) n w:=λl ab Jx W hW _ _ hY h0=>
 ab_ l B g n c ah hn hnc ab Jx hY W ((hW.cell (p:=⟨B,0,none⟩) hBw).trans hB) (aG.below hr hW) h0
theorem Yw{n0 g B:Nat}{W W':World}(h:Below n0 W W')(h1:g<n0)(h2:B<n0):cV g B W W':=⟨h.size,h.block g h1,h.block B h2⟩
def OG(w:World)(n:Nat)(ah:Nat->Bool)(e:Ending)(w':World):Prop:=
 Below w w w'/\((dP n ah= []/\e=.returned (.tuple #[I 0,.bool false]))\/∃p,p∈dP n ah/\e=.returned (.tuple #[nV p,.bool true]))
theorem aaE(w:World)(g n c:Nat)(ah:Nat->Bool)(hn:n<=64)(hnc:n<=c)(hr:lk w g n ah):
  Z 57 #[.func (.func 72) #[] #[(w.heap.size,0)]] (w.alloc (.cells #[.slice (g,0) n c] 102)) λe w'=>
   ∃v,e=.returned v/\w'.ownsRow 0 3 1 v (dP n ah).length ((dP n ah).map nV)/\Below w w w':=by
 have hb:Below w w (w.alloc (.cells #[.slice (g,0) n c] 102)):=(XAC _ w).alloc (XAB _) _;have hgl:=aG.lt hr;have hx:=GN (w.alloc (.cells #[.slice (g,0) n c] 102)) (Bx:=w.heap.size) (oN.KD (abj w.heap.size g n c ah _ hn hnc ((ak.new w 102 #[.slice (g,0) n c]).cell 0) ql (aG.below hr hb))) qd ql cV.trans
  (λW W' h=>Yw h qj ql) (enters_of func72 qh R)
 refine hx.mono ?_;rintro e w' ⟨v,xs,rfl,rfl,h1,h2⟩;exact⟨v,R,(own_base h1).1,h2.below hb ql ql⟩
theorem ZX(w:World)(g n c:Nat)(ah:Nat->Bool)(hn:n<=64)(hnc:n<=c)(hr:lk w g n ah)(p:Int)(hp:dC p):Z 35 #[.slice (g,0) n c,I p] w (OG w n ah):=by
 have HC:=XAA (aaE w g n c ah hn hnc hr);have hl:=Lp ah n;obtain⟨m,hm⟩:=Xq ((dP n ah).length);rw [hm] at hl HC;have HM:=XAA hm;clear hm hr;by_cases h0:m=0
 .subst h0;go_enter func35,ntmps35;go_wp2_with (first|(go_at_call 58;refine(DV _ _ _ _).mono ?_;rintro e w1 ⟨rfl,rfl⟩)|(go_at_call 57;refine HC.out.mono ?_;rintro e w1 ⟨v,rfl,ho,hb⟩;obtain⟨A,cap,rfl,hr⟩:=Row.slice ho))
  go_ret2
  exact⟨hb,.inl ⟨XBN HM.out,R⟩⟩
 .obtain⟨t,ht⟩:=Xq (p.tmod (m:Int));have hp2:=JK.1 hp;have t1: -(m:Int)<t:=by rw [<-ht];have:=Int.lt_tmod_of_pos p (show(0:Int)<m from qd);omega
  have t2:t<(m:Int):=by rw [<-ht];exact Int.tmod_lt_of_pos p qd
  have m0:((m:Int)==0)=false:=qj;have m1:¬(m:Int)=0:=qd;by_cases t0:t<0
  .obtain⟨u,hu⟩:∃u:Nat,t+(m:Int)=u:=⟨(t+m).toNat,qd⟩;have C1:u<m:=by omega
   obtain⟨q,hq⟩:∃q,(dP n ah)[u]? =some q:=⟨_,XAO (by rw [HM.out];exact C1)⟩;have HX:Hid (((dP n ah).map nV)[u]? =some (nV q)):=XAA (by rw [XAa,hq];rfl);have HQ:Hid (q∈dP n ah):=XAA (XAi hq);have HP:Hid (0<((dP n ah).map nV).length):=XAA (by rw [XAY,HM.out];omega);have u1:¬m<=u:=qd
   have u2:¬(m:Int)<=(u:Int):=qd;have u3:¬(u:Int)<0:=qd;clear hq;go_enter func35,ntmps35;go_wp2_with (first|(go_at_call 58;refine(DV _ _ _ _).mono ?_;rintro e w1 ⟨rfl,rfl⟩)|(go_at_call 57;refine HC.out.mono ?_;rintro e w1 ⟨v,rfl,ho,hb⟩;obtain⟨A,cap,rfl,hr⟩:=Row.slice ho;obtain⟨b,off,rfl,hbl,hcc⟩:=hr HP.out;have cu:=hcc u _ HX.out;clear hr hcc))
   go_ret2
   exact⟨hb,.inr ⟨q,HQ.out,R⟩⟩
  .obtain⟨u,rfl⟩:∃u:Nat,t=u:=⟨t.toNat,qd⟩;have C1:u<m:=by omega
   obtain⟨q,hq⟩:∃q,(dP n ah)[u]? =some q:=⟨_,XAO (by rw [HM.out];exact C1)⟩;have HX:Hid (((dP n ah).map nV)[u]? =some (nV q)):=XAA (by rw [XAa,hq];rfl);have HQ:Hid (q∈dP n ah):=XAA (XAi hq);have HP:Hid (0<((dP n ah).map nV).length):=XAA (by rw [XAY,HM.out];omega);have u1:¬m<=u:=qd
   have u2:¬(m:Int)<=(u:Int):=qd;have u3:¬(u:Int)<0:=qd;clear hq;go_enter func35,ntmps35;go_wp2_with (first|(go_at_call 58;refine(DV _ _ _ _).mono ?_;rintro e w1 ⟨rfl,rfl⟩)|(go_at_call 57;refine HC.out.mono ?_;rintro e w1 ⟨v,rfl,ho,hb⟩;obtain⟨A,cap,rfl,hr⟩:=Row.slice ho;obtain⟨b,off,rfl,hbl,hcc⟩:=hr HP.out;have cu:=hcc u _ HX.out;clear hr hcc))
   go_ret2
   exact⟨hb,.inr ⟨q,HQ.out,R⟩⟩
end
structure Gp where
 p:Nat
 d:Nat
 off:Bool
def tT(x:Gp):List Value:= [nV x.p,nV x.d,.bool x.off]
def jc(G:Nat->Gp)(i:Nat):List Value:=tT (G i)
structure ml(n:Nat)(G:Nat->Gp):Prop where
 n1:1<=n
 n2:n<=16
 par:∀i,i<n->(G i).p<=i
 pos:∀i,0<i->i<n->1<=(G i).p
 dep:∀i,i<n->1<=(G i).d/\(G i).d<=8
 root:(G 0).off=false
structure bA(cl:Nat->Nat)(c:Nat)(w:World)(b g n cap:Nat)(G:Nat->Gp):Prop where
 blk:ak w b 132 #[.slice (g,0) n cap]
 own:Own cl c w 129 3 (.slice (g,0) n cap) n (bM n (jc G))
 cb:cl b=c
 ok:ml n G
section
variable{cl aD:Nat->Nat}{c:Nat}{w w':World}{b g n cap i:Nat}{G:Nat->Gp}{js:List Nat}
theorem bA.md(h:bA cl c w b g n cap G)(hm:Md cl js w w')(hc:c∉js):bA cl c w' b g n cap G:=⟨hm.blk h.blk qjm,h.own.md hm hc,h.cb,h.ok⟩
theorem bA.below(h:bA cl c w b g n cap G)(hb:Below w w w'):bA cl c w' b g n cap G:=⟨h.blk.below hb,h.own.below hb,h.cb,h.ok⟩
theorem bA.cls(h:bA cl c w b g n cap G)(he:∀k,k<w.heap.size->aD k=cl k):bA aD c w b g n cap G:=⟨h.blk,h.own.cls he,(he _ h.blk.lt).trans h.cb,h.ok⟩
theorem bA.gl(h:bA cl c w b g n cap G):g<w.heap.size:=(h.own.2 g R).1
theorem bA.cg(h:bA cl c w b g n cap G):cl g=c:=(h.own.2 g R).2
theorem nW{w:World}{e:TypeId}{size n g cap:Nat}{xs:List Value}(h:w.ownsRow 0 e size (.slice (g,0) n cap) n xs):aG w g e xs:=by
 rcases h.2 with⟨h0,-⟩|⟨g',cap',cur,h0,-,h2,-,-,-,h4⟩
 .cases h0
 .injection h0 with h0 _ _;injection h0 with h0;injection h0 with h0;subst h0;exact⟨cur,h2,by rw [h.1];exact h4⟩
theorem kU{w:World}{e:TypeId}{size n g cap:Nat}{xs:List Value}(h:w.ownsRow 0 e size (.slice (g,0) n cap) n xs){j:Nat}{u:Value}(hu:xs[j]? =some u):w.cell? (g,j)=some u/\w.frozen? (g,j)=false:=⟨(nW h).cell j u hu,(nW h).frz j⟩
theorem bA.at_(h:bA cl c w b g n cap G)(hi:i<n):w.cell? (g,i*3)=some (nV (G i).p)/\w.cell? (g,i*3+1)=some (nV (G i).d)/\w.cell? (g,i*3+2)=some (.bool (G i).off):=by
 have e:=λj (hj:j<3)=>kN (m:=3) (F:=jc G) (λ_=>rfl) n i j hi hj;exact⟨(kU h.own.1 (by have:=e 0 qf;rw [XB5] at this;rw [this];rfl)).1,(kU h.own.1 (by rw [e 1 qf];rfl)).1,(kU h.own.1 (by rw [e 2 qf];rfl)).1⟩
theorem mS(w:World)(h:bA cl c w b g n cap G):Z 173 #[(b,0)] w λe w'=>e=.returned (.bool false)/\w'=w:=by
 have c0:w.cell? (b,0)=some (.slice (g,0) n cap):=h.blk.cell 0;have a0:((n:Int)==0)=false:=by have:=h.ok.n1;simp;omega
 clear h;go_enter func173,ntmps173;go_wp2;go_ret;exact⟨R,R⟩
theorem D7(w:World)(h:bA cl c w b g n cap G):Z 123 #[(b,0)] w λe w'=>e=.returned (nV n)/\w'=w:=by
 have H:=XAA h;have c0:w.cell? (b,0)=some (.slice (g,0) n cap):=h.blk.cell 0;clear h;go_enter func123,ntmps123;go_wp2_with (go_at_call 173;refine Xr (mS _ H.out) ?_);go_ret;exact⟨R,R⟩
theorem og(w:World)(h:bA cl c w b g n cap G)(hi:i<n):Z 176 #[(b,0),I ((i:Int)+1)] w λe w'=>e=.returned (.pointer (g,i*3))/\w'=w:=by
 have H:=XAA h;have c0:w.cell? (b,0)=some (.slice (g,0) n cap):=h.blk.cell 0;have hn2:=h.ok.n2;have a0:¬(i:Int)+1<1:=qd
 have a1:¬(n:Int)<(i:Int)+1:=qd;have a2:¬n<=i:=qd;have a3:¬(n:Int)<=(i:Int):=qd;have a4:¬(i:Int)<0:=qd;clear h;go_enter func176,ntmps176;go_wp2_with (go_at_call 173;refine Xr (mS _ H.out) ?_);go_ret;exact⟨R,R⟩
theorem abZ(w:World)(h:bA cl c w b g n cap G)(x:Int)(hx:x<1\/(n:Int)<x):Z 176 #[(b,0),I x] w λe w'=>e=.returned (.pointer none)/\w'=w:=by
 have H:=XAA h;have c0:w.cell? (b,0)=some (.slice (g,0) n cap):=h.blk.cell 0;clear h;rcases (by omega:x<1\/(¬x<1/\(n:Int)<x)) with a0|⟨a0,a1⟩<;>
  (go_enter func176,ntmps176;go_wp2_with (go_at_call 173;refine Xr (mS _ H.out) ?_);go_ret;exact⟨R,R⟩)
theorem abK(w:World)(h:bA cl c w b g n cap G)(hi:i<n):Z 159 #[(b,0),I ((i:Int)+1)] w λe w'=>e=.returned (.bool (!(G i).off))/\w'=w:=by
 have H:=XAA h;obtain⟨-,-,c2⟩:=h.at_ hi;generalize (G i).off=o at c2 ⊢;clear h;go_enter func159,ntmps159;go_wp2_with (go_at_call 176;refine Xr (og _ H.out hi) ?_);go_ret;exact⟨R,R⟩
theorem acG(w:World):Z 27 #[] w λe w'=>∃b g,e=.returned (.pointer (b,0))/\bA (ext cl w c) c w' b g 1 1 (λ_=>⟨0,1,false⟩)/\w.heap.size<=b/\Below w w w':=by
 go_enter func27,ntmps27;go_wp2;go_ret;refine⟨w.heap.size+1,w.heap.size,R,⟨ak.new2 _ _ _ _,⟨⟨R,.inr ⟨w.heap.size,1,_,R,XAJ _,(XAX _ _ _ ql).trans (World.alloc_heap_new w _),XAB _,qf,R,R⟩⟩,λg hg=>?_⟩,mA (XAU _),⟨XAB _,qf,λi hi=>by(obtain rfl:i=0:=by omega);exact XAB _,λi h1 h2=>qd,λi hi=>qf,R⟩⟩,XAU _,qa⟩;have e:w.heap.size=g:=qcp
 subst e;exact⟨qj,mA (XAB _)⟩
def eE(G:Nat->Gp)(i:Nat)(x:Gp):Nat->Gp:=λj=>if j=i then x else G j
theorem KO{w:World}{e:TypeId}{size n g cap:Nat}{xs:List Value}(h:w.ownsRow 0 e size (.slice (g,0) n cap) n xs)(j:Nat)(u:Value):(w.setCell (g,j) u).ownsRow 0 e size (.slice (g,0) n cap) n (xs.set j u):=by
 have hr:=(nW h).set j u;refine⟨by rw [XAk];exact h.1,?_⟩;rcases h.2 with⟨h0,-⟩|⟨g',cap',cur,h0,h1,h2,h3,h4,h5,h6⟩
 .cases h0
 .injection h0 with h0 _ hc;injection h0 with h0;injection h0 with h0;subst h0;subst hc;obtain⟨cs,q1,q2⟩:=hr;refine .inr ⟨g,cap,cs,R,h1,q1,h3,h4,?_,by rw [<-h.1];simpa using q2⟩;have hb:ak w g e cur:=h2;have:=hb.aJ j u;unfold ak at this q1;rw [this] at q1;injection q1 with q1;injection q1 with q1;rw [<-q1];simpa using h5
theorem aa_(w:World)(h:bA cl c w b g n cap G)(hi:i<n):Z 127 #[(b,0),I ((i:Int)+1)] w λe w'=>
  ∃(r:Int)(G':Nat->Gp),e=.returned (I r)/\bA cl c w' b g n cap G'/\Md cl [c] w w'/\(∀j,(G' j).p=(G j).p):=by
 have H:=XAA h;obtain⟨-,-,c2⟩:=h.at_ hi;have c0:w.cell? (b,0)=some (.slice (g,0) n cap):=h.blk.cell 0;have f2:=(nW h.own.1).frz (i*3+2);clear h;by_cases hi0:i=0
 .have b0:((i:Int)+1==1)=true:=by simp;omega
  have b1:((i:Int)==0)=true:=qj;clear hi0;go_enter func127,ntmps127;go_wp2_with (first|(go_at_call 173;refine Xr (mS _ H.out) ?_)|(go_at_call 176;refine Xr (og _ H.out hi) ?_));go_ret;exact⟨292,G,rfl,H.out,Md.refl _ _ _,λ_=>rfl⟩
 .have b0:((i:Int)+1==1)=false:=by simp;omega
  have b1:((i:Int)==0)=false:=qj;have HI:=XAA hi0;clear hi0;by_cases hof:(G i).off=true
  .rw [hof] at c2;clear hof;go_enter func127,ntmps127;go_wp2_with (first|(go_at_call 173;refine Xr (mS _ H.out) ?_)|(go_at_call 176;refine Xr (og _ H.out hi) ?_));go_ret;exact⟨292,G,rfl,H.out,Md.refl _ _ _,λ_=>rfl⟩
  .have vW:(G i).off=false:=by simpa using hof
   rw [vW] at c2;clear hof vW;go_enter func127,ntmps127;go_wp2_with (first|(go_at_call 173;refine Xr (mS _ H.out) ?_)|(go_at_call 176;refine Xr (og _ H.out hi) ?_));go_ret;refine⟨0,eE G i ⟨(G i).p,(G i).d,true⟩,rfl,?_,(Md.refl cl [c] w).set (λ_=>by rw [H.out.cg];simp) _ _,λj=>by unfold eE;split<;>simp_all⟩;have hbg:b≠g:=λe=>own_ne H.out.own.1 H.out.blk qf qjp;have hr:=KO H.out.own.1 (i*3+2) (.bool true);rw [nJ (n:=n) (m:=3) (F:=jc G) (G:=jc (eE G i ⟨(G i).p,(G i).d,true⟩)) (λ_=>rfl) (λ_=>rfl) hi (show 2<3 from qf) (v:=.bool true) (by unfold jc eE;rw [XAE rfl];rfl) (λj _ hj=>by unfold jc eE;rw [XAD hj])] at hr;refine⟨H.out.blk.far hbg _,⟨hr,λg' hg'=>?_⟩,H.out.cb,⟨H.out.ok.n1,H.out.ok.n2,λj hj=>?_,λj h0 hj=>?_,λj hj=>?_,?_⟩⟩
   .have:=H.out.own.2 g' hg';exact⟨by simpa [World.setCell] using this.1,this.2⟩
   .unfold eE;split
    .rename_i e;subst e;exact H.out.ok.par _ hj
    .exact H.out.ok.par _ hj
   .unfold eE;split
    .rename_i e;subst e;exact H.out.ok.pos _ h0 hj
    .exact H.out.ok.pos _ h0 hj
   .unfold eE;split
    .rename_i e;subst e;exact H.out.ok.dep _ hj
    .exact H.out.ok.dep _ hj
   .unfold eE;rw [XAD (λe=>HI.out e.symm)];exact H.out.ok.root
end
section
open Go.Shelf
attribute [local go_sem] Oper.semAt_some
def sM(G:Nat->Gp):Nat->Nat->List Nat
 |0,_=> []
 |f+1,i=>(i+1)::if(G i).p=0 then [] else sM G f ((G i).p-1)
def jS(G:Nat->Gp)(i:Nat):List Nat:=sM G (i+1) i
def c_(G:Nat->Gp):Option Nat->List Nat
 |none=> []
 |some i=>jS G i
section
variable{G G':Nat->Gp}{n:Nat}
theorem D_(h:ml n G):∀(f i:Nat),i<f->i<n->sM G f i=jS G i
 |0,_,h1,_=>qd
 |f+1,i,h1,h2=>by
  have hp:=h.par i h2;show(i+1)::_=(i+1)::_;by_cases h0:(G i).p=0
  .rw [XAE h0,XAE h0]
  .rw [XAD h0,XAD h0]
   congr 1
   rw [D_ h f ((G i).p-1) qd qd];by_cases e:i=0
   .omega
   .obtain⟨k,rfl⟩:∃k,i=k+1:=⟨i-1,qd⟩;exact(D_ h (k+1) _ qd qd).symm
 termination_by f i=>f+i
theorem uu(h:ml n G){i:Nat}(hi:i<n):jS G i=(i+1)::c_ G (if(G i).p=0 then none else some ((G i).p-1)):=by
 have hp:=h.par i hi;show(i+1)::_=_;by_cases h0:(G i).p=0
 .rw [XAE h0,XAE h0];rfl
 .rw [XAD h0,XAD h0];show _=(i+1)::jS G ((G i).p-1);rw [D_ h i _ qd qd]
end
def cf(n:Nat)(x:Int):Option Nat:=if 1<=x/\x<=n then some (x.toNat-1) else none
theorem PS{n i:Nat}(h:i<n):cf n ((i:Int)+1)=some i:=by unfold cf;rw [XAE qd];congr 1
theorem Gk{n:Nat}{x:Int}(h:¬(1<=x/\x<=n)):cf n x=none:=XAD h
theorem yd{n i:Nat}{x:Int}(h:cf n x=some i):i<n/\x=(i:Int)+1:=by
 unfold cf at h;split at h
 .injection h with h;omega
 .cases h
def zz(g:Nat):Option Nat->Value
 |none=>.pointer none
 |some i=>.pointer (g,i*3)
theorem DQ(g:Nat):zz g none=.pointer none:=rfl
theorem Lb(g i:Nat):zz g (some i)=.pointer (g,i*3):=rfl
structure dL(bs:List Nat)(W W':World):Prop where
 size:W.heap.size<=W'.heap.size
 blk:∀k∈bs,W'.heap[k]? =W.heap[k]?
theorem dL.refl(bs:List Nat)(W:World):dL bs W W:=⟨XAB _,λ_ _=>rfl⟩
theorem dL.trans{bs:List Nat}{X af ae:World}(h:dL bs X af)(k:dL bs af ae):dL bs X ae:=⟨XAL h.size k.size,λx hx=>(k.blk x hx).trans (h.blk x hx)⟩
theorem dL.below{bs:List Nat}{n0:Nat}{W W':World}(h:Below n0 W W')(hb:∀k∈bs,k<n0):dL bs W W':=⟨h.size,λk hk=>h.block k (hb k hk)⟩
theorem dL.sub{bs cs:List Nat}{W W':World}(h:dL bs W W')(hs:∀k∈cs,k∈bs):dL cs W W':=⟨h.size,λk hk=>h.blk k (hs k hk)⟩
section
variable{cl:Nat->Nat}{c:Nat}{w w':World}{b g n cap i:Nat}{G:Nat->Gp}
theorem bA.kp(h:bA cl c w b g n cap G){bs:List Nat}(hk:dL bs w w')(h1:b∈bs)(h2:g∈bs):bA cl c w' b g n cap G:=
 ⟨(hk.blk b h1).trans h.blk,⟨cM h.own.1 λg' hg=>by have e:g=g':=qcp;rw [<-e];exact hk.blk g h2,λg' hg=>⟨XAH (h.own.2 g' hg).1 hk.size,(h.own.2 g' hg).2⟩⟩,h.cb,h.ok⟩
theorem D8(w:World)(h:bA cl c w b g n cap G)(x:Int):Z 176 #[(b,0),I x] w λe w'=>e=.returned (zz g (cf n x))/\w'=w:=by
 by_cases hx:1<=x/\x<=n
 .obtain⟨i,rfl⟩:∃i:Nat,x=(i:Int)+1:=⟨x.toNat-1,qd⟩;rw [PS qd];exact og w h qd
 .rw [Gk hx];exact abZ w h x qd
def DP:Value->Nat
 | .pointer (some a)=>a.off+1
 |_=>0
theorem K2(h:ml n G):∀(i:Nat),i<n->(jS G i).length<=i+1
 |i,hi=>by
  have hp:=h.par i hi;rw [uu h hi];by_cases h0:(G i).p=0
  .rw [XAE h0];simp [c_]
  .rw [XAD h0];have:=K2 h ((G i).p-1) qd;show(_::jS G _).length<=_;rw [XA0];omega
theorem sx(h:ml n G)(x:Int):(c_ G (cf n x)).length<=n:=by
 cases hs:cf n x with
 |none=>exact XAJ _
 |some i=>
  have h1:=(yd hs).1;have:=K2 h i h1;show(jS G i).length<=n;omega
def OS(G:Nat->Gp)(st:Option Nat)(ab Jx:List Nat->World->Prop)(e:Ending)(W':World):Prop:=(∃v,e=.returned v)/\((∃ys,ys=c_ G st/\ab ys W')\/(∃pre:List Nat,pre<+:c_ G st/\Jx pre W'))
theorem aci(l B1 B2:Nat)(ab Jx:List Nat->World->Prop)(x:Int)
 (W:World)(h:bA cl c W b g n cap G)(hB1:Boxed W B1 44 (.pointer (b,0)))(hB2:Boxed W B2 3 (I x))(hne1:b≠B2)(hne2:g≠B2)(t_:B1≠B2)
 (hJ:∀s A v,ab s A->ab s (A.setCell (B2,0) v))(hY:∀pre x W,ab pre W->pre.length<16->FT Fence.wide 8 prog l (λx:Nat=>#[nV x]) (dL [b,g,B1,B2]) ab Jx pre x W)(h0:ab [] W):
  CallsIn Fence.wide 8 prog 189 #[.func (.yield l) #[] #[],.pointer (B1,0),.pointer (B2,0)] W (OS G (cf n x) ab Jx):=by
 refine XDs func189 R trivial ?_ rfl;simp only [ntmps189,List.size_toArray,List.length_cons,List.length_nil,Nat.reduceAdd,Nat.reduceSub,Array.replicate_succ,Array.replicate_zero,List.push_toArray,List.append_toArray,List.nil_append,List.cons_append];have c1:=hB1.cell;have c2:=hB2.cell;have H:=XAA h;clear h
 gi_wp2_with (refine⟨trivial,?_⟩;gi_at_call 176;(with_reducible refine(XAp.2 (D8 _ H.out x)).mono ?_);rintro e w0 ⟨rfl,hw0⟩;replace hw0:=hw0.symm;subst hw0)
 gi_loopw [4] (λv wr=>∃(st:Option Nat)(pre:List Nat)(y:Int),v=zz g st/\Boxed wr B2 3 (I y)/\(∀i,st=some i->i<n/\y=(i:Int)+1)/\pre++c_ G st=c_ G (cf n x)/\dL [b,g,B1] W wr/\ab pre wr) (λv _=>DP v)
 case atStart=>exact⟨cf n x, [],x,R,hB2,λi hi=>yd hi,R,dL.refl _ _,h0⟩
 case round=>
  obtain⟨st,pre,y,rfl,hb2,hst,hpre,hk,hj⟩:=hrel;cases st with
  |none=>
   rw [DQ]
   gi_wp2
   refine⟨λ_ h=>qck,?_⟩
   gi_wp2
   go_end0;exact⟨⟨_,R⟩,.inl ⟨pre,by simpa [c_] using hpre,hj⟩⟩
  |some i=>
   obtain⟨hi,rfl⟩:=hst i rfl;have hT:=H.out.kp hk ql ql;have VH:Boxed wr B1 44 (.pointer (b,0)):=(hk.blk B1 ql).trans hB1;have hlen:pre.length<16:=by
    have h1:=XAK List.length hpre;have h2:=sx H.out.ok x;have h3:=H.out.ok.n2;have h4:1<=(c_ G (some i)).length:=by show 1<=(jS G i).length;rw [uu H.out.ok hi];simp
    rw [XAZ] at h1;omega
   have d2:=hb2.cell;obtain⟨fn,tmps,assign,body,hy,hR⟩:=hY pre (i+1) wr hj hlen;dsimp only at hy;rw [show nV (i+1)=I ((i:Int)+1) from rfl] at hy;have HP:=XAA hpre;have HK:=XAA hk;have HT:=XAA hT;have HB:=XAA VH;clear hpre hk hT hlen hst;rw [Lb]
   gi_wp2
   refine hR.mono ?_;rintro e W3 (⟨rfl,hJ3,hk3⟩|⟨rfl,hJx3⟩)
   .have ID:=HT.out.kp hk3 ql ql;have hb1:Boxed W3 B1 44 (.pointer (b,0)):=(hk3.blk B1 ql).trans HB.out;have q1:=hb1.cell;have hb3:Boxed W3 B2 3 (I ((i:Int)+1)):=(hk3.blk B2 ql).trans hb2;have f2:=hb3.frozen;obtain⟨t0,-,-⟩:=ID.at_ hi;have q2:=hb3.cell;have hbs:=hb3.set (nV (G i).p);have hkl:dL [b,g,B1] W3 (W3.setCell (B2,0) (nV (G i).p)):=⟨qbt,λk hk=>XAN W3 _ _ k (by show k≠B2;simp at hk;rcases hk with rfl|rfl|rfl<;>assumption)⟩;have yH:=ID.kp hkl ql ql;have hb4:Boxed (W3.setCell (B2,0) (nV (G i).p)) B1 44 (.pointer (b,0)):=(hkl.blk B1 ql).trans hb1;have r1:=hb4.cell;have r2:=hbs.cell;have HT4:=XAA yH;have HJ:=XAA (hJ _ _ (nV (G i).p) hJ3);have br:=XAA (HK.out.trans ((hk3.sub ql).trans hkl));clear yH hkl hJ3
    gi_wp2_with (refine⟨trivial,?_⟩;gi_at_call 176;(with_reducible refine(XAp.2 (D8 _ HT4.out ((G i).p:Int))).mono ?_);rintro e w0 ⟨rfl,hw0⟩;replace hw0:=hw0.symm;subst hw0)
    have hp1:=H.out.ok.par i hi;have hat:cf n ((G i).p:Int)=if(G i).p=0 then none else some ((G i).p-1):=by
     by_cases h0:(G i).p=0
     .rw [XAE h0,h0,Gk qd]
     .rw [XAD h0];unfold cf;rw [XAE qd]
      congr 1
    go_roundw
    case rel=>exact⟨_,pre++ [i+1],_,R,hbs,λk hk=>yd hk,by rw [<-HP.out,hat,XB1];show _=pre++jS G i;rw [uu H.out.ok hi];rfl,br.out,HJ.out⟩
    case measure=>
     rw [hat];by_cases h0:(G i).p=0
     .rw [XAE h0,DQ];simp [DP]
     .rw [XAD h0,Lb];simp [DP];omega
   .gi_wp2
    refine XAI (XAm R _ _ _) R ?_;exact⟨⟨_,R⟩,.inr ⟨pre++ [i+1],by rw [<-HP.out];show _<+:pre++jS G i;rw [uu H.out.ok hi];exact⟨c_ G _,by rw [XB1];rfl⟩,hJx3⟩⟩
theorem LX(B1 B2:Nat)(x:Int)(w:World)(h:bA cl c w b g n cap G)(hB1:Boxed w B1 44 (.pointer (b,0)))(hB2:Boxed w B2 3 (I x))(hne1:b≠B2)(hne2:g≠B2)(t_:B1≠B2):
  oN Fence.wide 8 prog 189 #[(B1,0),.pointer (B2,0)] (λx:Nat=>#[nV x]) (dL [b,g,B1,B2]) (λys=>ys=c_ G (cf n x)) (λpre=>pre<+:c_ G (cf n x)) 16 B2 w:=λl ab Jx W hW ha hY h0=>
 aci l B1 B2 ab Jx x W (h.below hW) ((hW.block B1 hB1.lt).trans hB1) ((hW.block B2 hB2.lt).trans hB2) hne1 hne2 t_ ha.box hY h0
theorem LV(w:World)(t:Addr)(x:Int):Z 139 #[.pointer (some t),I x] w λe w'=>e=.returned (.func (.func 189) #[] #[(w.heap.size,0),.pointer (w.heap.size+1,0)])/\w'=(w.alloc (.cells #[.pointer (some t)] 44)).alloc (.cells #[I x] 3):=by
 go_enter func139,ntmps139;go_wp2;go_ret;exact⟨R,R⟩
def OQ(w:World)(P:List Nat)(e:Ending)(w':World):Prop:=∃v,e=.returned v/\w'.ownsRow w.heap.size 3 1 v P.length (P.map nV)/\Below w w w'
theorem uB(w:World)(h:bA cl c w b g n cap G)(x:Int):Z 98 #[(b,0),I x] w (OQ w (c_ G (cf n x))):=by
 have hb1:Below w w ((w.alloc (.cells #[(b,0)] 44)).alloc (.cells #[I x] 3)):=((XAC _ w).alloc (XAB _) _).alloc ql _;have k1:=(Boxed.new w 44 (.pointer (b,0))).alloc (.cells #[I x] 3);have k2:=Boxed.new (w.alloc (.cells #[(b,0)] 44)) 3 (I x);rw [XAT] at k2;have l1:=h.blk.lt;have l2:=h.gl;have hx:=GN _ (LX w.heap.size (w.heap.size+1) x _ (h.below hb1) k1 k2 qd qd qd) qf k2.lt dL.trans (λW W' hw=>dL.below hw qj) (enters_of func189 qh R);have HX:=XAA hx;have HB:=XAA hb1;clear hx h k1 k2 hb1;generalize c_ G (cf n x)=P at HX ⊢;go_enter func98,ntmps98;go_wp2_with (first|(go_at_call 139;refine(LV _ _ _).mono ?_;rintro e w1 ⟨rfl,rfl⟩)|(go_at_call 57;refine HX.out.mono ?_;rintro e w2 ⟨v,xs,rfl,rfl,h1,h2⟩));go_ret;obtain⟨h3,h4⟩:=own_base h1;refine⟨v,R,?_,h2.below HB.out ql qj⟩;refine⟨h1.1,?_⟩;rcases h1.2 with q|⟨g',cap',cur,q1,q2,q3⟩
 .exact .inl q
 .exact .inr ⟨g',cap',cur,q1,by simp at q2;omega,q3⟩
end
end
section
open Go.Shelf
attribute [local go_sem] Oper.semAt_some
def ZC(G:Nat->Gp):Option Nat->Bool
 |none=>false
 |some i=> !(G i).off
def jn(n:Nat)(G:Nat->Gp)(x:Nat):Bool:=ZC G (cf n (x:Int))
def kO(n:Nat)(G:Nat->Gp):List Nat->Nat
 | []=>0
 |x::l=>if jn n G x=true then x else kO n G l
section
variable{cl:Nat->Nat}{c:Nat}{w w':World}{b g n cap i:Nat}{G:Nat->Gp}
theorem I5{x:Nat} :∀{l m:List Nat},l++ [x]<+:m->(∀y∈l,jn n G y=false)->jn n G x=true->kO n G m=x
 | [],m,h,_,hx=>by obtain⟨r,rfl⟩:=h;show(if jn n G x=true then x else _)=x;rw [XAE hx]
 |y::l,m,h,hl,hx=>by obtain⟨r,rfl⟩:=h;show(if jn n G y=true then y else kO n G (l++ [x]++r))=x;rw [XAD (by rw [hl y (XA1 ..)];decide)];exact I5 ⟨r,R⟩ (λz hz=>hl z (XBC _ hz)) hx
theorem I4:∀{m:List Nat},(∀y∈m,jn n G y=false)->kO n G m=0
 | [],_=>rfl
 |y::m,h=>by show(if jn n G y=true then y else kO n G m)=0;rw [XAD (by rw [h y (XA1 ..)];decide)];exact I4 λz hz=>h z (XBC _ hz)
theorem KZ(h:ml n G):∀(i:Nat),i<n->(∀x∈jS G i,1<=x/\x<=n)/\1∈jS G i
 |i,hi=>by
  have hp:=h.par i hi;rw [uu h hi];by_cases h0:(G i).p=0
  .rw [XAE h0];have:i=0:=by
    rcases XAr i with e|e
    .exact e
    .have:=h.pos i e hi;omega
   subst this;exact⟨λx hx=>by simp [c_] at hx;omega,ql⟩
  .rw [XAD h0];obtain⟨h1,h2⟩:=KZ h ((G i).p-1) qd;refine⟨λx hx=>?_,XBC _ h2⟩;rcases XBD.1 hx with rfl|hx
   .omega
   .exact h1 x hx
theorem LU(w:World)(h:bA cl c w b g n cap G)(x:Nat):Z 159 #[(b,0),I x] w λe w'=>e=.returned (.bool (jn n G x))/\w'=w:=by
 have H:=XAA h;have ho:=D8 w h (x:Int);unfold jn;cases hs:cf n (x:Int) with
 |none=>
  rw [hs] at ho;have HO:=XAA ho;clear h ho hs;rw [DQ] at HO;go_enter func159,ntmps159;go_wp2_with (go_at_call 176;refine HO.out.mono ?_;rintro e w0 ⟨rfl,hw0⟩;replace hw0:=hw0.symm;subst hw0);go_ret;exact⟨R,R⟩
 |some i=>
  obtain⟨hi,e⟩:=yd hs;rw [e];exact abK w h hi
def Fs(w:World)(b n:Nat)(G:Nat->Gp)(pre:List Nat)(W:World):Prop:=
 Boxed W w.heap.size 44 (.pointer (b,0))/\Boxed W (w.heap.size+1) 3 (I 0)/\(∀y∈pre,jn n G y=false)/\Below w w W
def Ft(w:World)(n:Nat)(G:Nat->Gp)(pre:List Nat)(W:World):Prop:=
 (∃l x,pre=l++ [x]/\(∀y∈l,jn n G y=false)/\jn n G x=true/\Boxed W (w.heap.size+1) 3 (nV x))/\Below w w W
theorem Wr(w:World)(B b n:Nat)(G:Nat->Gp)(hB:w.heap.size<=B):OwnFrom B (Fs w b n G):=λs W W' row hs hg hr=>
 ⟨(Own.from (boxed_own _ _ (λ(_:Unit)=>_)) B) () W W' row hs.1 hg hr,(Own.from (boxed_own _ _ (λ(_:Unit)=>_)) B) () W W' row hs.2.1 hg hr,hs.2.2.1,ownFrom_below (XAB _) hB s W W' row hs.2.2.2 hg hr⟩
theorem Ws(w:World)(B n:Nat)(G:Nat->Gp)(hB:w.heap.size<=B):OwnFrom B (Ft w n G):=λs W W' row hs hg hr=>by
 obtain⟨⟨l,x,h1,h2,h3,h4⟩,h5⟩:=hs;exact⟨⟨l,x,h1,h2,h3,(Own.from (boxed_own _ _ (λ(_:Unit)=>_)) B) () W W' row h4 hg hr⟩,ownFrom_below (XAB _) hB s W W' row h5 hg hr⟩
theorem Ab(w:World)(h:bA cl c w b g n cap G)(x:Int):Z 111 #[(b,0),I x] w λe w'=>e=.returned (nV (kO n G (c_ G (cf n x))))/\Below w w w':=by
 refine(XAp (n:=9)).1 ?_;refine callsIn_of_wp_marks func111 R trivial ?_ rfl;simp only [ntmps111,List.size_toArray,List.length_cons,List.length_nil,Nat.reduceAdd,Nat.reduceSub,Array.replicate_succ,Array.replicate_zero,List.push_toArray,List.append_toArray,List.nil_append,List.cons_append]
 gi_wp2_with (refine⟨trivial,?_⟩;gi_at_call 139;(with_reducible refine(XAp.2 (LV _ ⟨b,0,none⟩ x)).mono ?_);rintro e w' ⟨rfl,rfl⟩)
 have l1:=h.blk.lt;have l2:=h.gl;have b0:=(((Boxed.new w 44 (.pointer (b,0))).alloc (.cells #[I 0] 3)).alloc (.cells #[(b,0)] 44)).alloc (.cells #[I x] 3);have b1:=((Boxed.new (w.alloc (.cells #[(b,0)] 44)) 3 (I 0)).alloc (.cells #[(b,0)] 44)).alloc (.cells #[I x] 3);have b2:=(Boxed.new ((w.alloc (.cells #[(b,0)] 44)).alloc (.cells #[I 0] 3)) 44 (.pointer (b,0))).alloc (.cells #[I x] 3);have b3:=Boxed.new (((w.alloc (.cells #[(b,0)] 44)).alloc (.cells #[I 0] 3)).alloc (.cells #[(b,0)] 44)) 3 (I x);have hB0:Below w w ((((w.alloc (.cells #[(b,0)] 44)).alloc (.cells #[I 0] 3)).alloc (.cells #[(b,0)] 44)).alloc (.cells #[I x] 3)):=((((XAC _ w).alloc (XAB _) _).alloc ql _).alloc qj _).alloc qj _;simp only [XAT] at b1 b2 b3;have hsz:((((w.alloc (.cells #[(b,0)] 44)).alloc (.cells #[I 0] 3)).alloc (.cells #[(b,0)] 44)).alloc (.cells #[I x] 3)).heap.size=w.heap.size+4:=ql
 obtain⟨W0,hW0⟩:=Xq (((((w.alloc (.cells #[(b,0)] 44)).alloc (.cells #[I 0] 3)).alloc (.cells #[(b,0)] 44)).alloc (.cells #[I x] 3)));rw [hW0] at b0 b1 b2 b3 hB0 hsz ⊢;clear hW0;have H:=XAA h;clear h;refine Eg R qd (gf:=189) (lb:=#[.pointer (some ⟨w.heap.size+1+1,0,none⟩),.pointer (some ⟨w.heap.size+1+1+1,0,none⟩)]) R trivial (enters_of func189 qh R)
  (LX (w.heap.size+1+1) (w.heap.size+1+1+1) x W0 (H.out.below hB0) b2 b3 qd qd qd) qd (XAC _ _) (λ_=>rfl)
  dL.trans (λW l o o' hl _ _ _=>dL.below (BD W l o' hl) qj) (Fs w b n G) (Ft w n G) (Wr w _ b n G qd) (Ws w _ n G qd) ?ib ⟨b0,b1,λy hy=>(by cases hy),hB0⟩
  (λy=> { tmps:=#[(b,0),I x,.pointer (w.heap.size,0),undef,.pointer (w.heap.size+1,0),nV y,.pointer (b,0),I x,
   .func (.func 189) #[] #[(w.heap.size+1+1,0),.pointer (w.heap.size+1+1+1,0)],nV y,undef,undef,undef,undef],defers:= [] }) ?assign ?body ?done ?stop
 case ib=>
  rintro s W v ⟨i0,i1,i2,i3⟩;exact⟨i0.other qd v,i1.other qd v,i2,i3.setCell (p:=⟨w.heap.size+1+1+1,0,none⟩) (XCL _ 3) v⟩
 case assign=>
  intro l y W K hK
  gi_wp2
  exact hK
 case body=>
  rintro l pre y W ⟨i0,i1,i2,i3⟩ _;have c0:=i0.cell;have c1:=i1.cell;have f1:=i1.frozen;by_cases hon:jn n G y=true
  .have HO:=XAA (LU W (H.out.below i3) y);rw [hon] at HO;have AM:=XAA hon;clear hon
   gi_wp2_with (refine⟨trivial,?_⟩;gi_at_call 159;(with_reducible refine(CallsIn.inRound l (XAp.2 HO.out)).mono ?_);rintro e w0 ⟨rfl,hw0⟩;replace hw0:=hw0.symm;subst hw0)
   exact⟨KeepsOthers.setCell _ _ _,⟨pre,y,R,i2,AM.out,i1.set (nV y)⟩,i3.setCell (p:=⟨w.heap.size+1,0,none⟩) (XCL _ 1) _⟩
  .have CX:jn n G y=false:=by simpa using hon
   have HO:=XAA (LU W (H.out.below i3) y);rw [CX] at HO;have AM:=XAA CX;clear hon CX
   gi_wp2_with (refine⟨trivial,?_⟩;gi_at_call 159;(with_reducible refine(CallsIn.inRound l (XAp.2 HO.out)).mono ?_);rintro e w0 ⟨rfl,hw0⟩;replace hw0:=hw0.symm;subst hw0)
   exact⟨KeepsOthers.refl _,dL.refl _ _,i0,i1,λz hz=>(XAe.1 hz).elim (i2 z) (λe=>by rw [XA2.1 e];exact AM.out),i3⟩
 case done=>
  rintro D ys W hD rfl ⟨i0,i1,i2,i3⟩ hK;have c1:=i1.cell;have f1:=i1.frozen
  gi_wp2
  have hK':=(KeepsOthers.setCell W ⟨w.heap.size+1,0,none⟩ (I 0)).same D _ hK rfl;refine⟨ql,.inl ⟨_,_,R,run_takeDeferred hK',?_⟩⟩;have hc5:=cell_kept (XEl W ⟨w.heap.size+1,0,none⟩ (I 0) (by rw [c1];rfl)) (grownBy_putObj' _ D (.deferred none)) (λr e=>qie);refine⟨I 0,?_,by rw [I4 i2];rfl,(i3.setCell (p:=⟨w.heap.size+1,0,none⟩) (XCL _ 1) _).trans (belowK_b (w:=w) (XAB _) _ D _ _ qd hK' R R)⟩;simp [results,f111,go_sem,hc5]
 case stop=>
  rintro D pre W hD hpre ⟨⟨l,y,rfl,h3,h4,h5⟩,h6⟩ hK
  gi_wp2
  refine⟨ql,.inl ⟨_,_,R,run_takeDeferred hK,?_⟩⟩;have hc5:=cell_kept h5.cell (grownBy_putObj' _ D (.deferred none)) (λr e=>by cases e;exact⟨_,hK,R⟩);refine⟨nV y,?_,by rw [I5 hpre h3 h4],h6.trans (belowK_b (w:=w) (XAB _) W D _ _ qd hK R R)⟩;simp [results,f111,go_sem,hc5]
end
end
theorem iS{P:Program}{e:TypeId}{z:Value}{size bytes:Nat}(hinfo:(P.info? e).map (λi=>(i.zero,i.size,i.bytes))=some (some z,size,bytes))(hzs:z.cells.size=size)(hsz:0<size)
 {ops:Array Oper}{o:Oper}{a:Act}{w:World}{K:Act->World->Prop}{Q:Exit->Act->World->Prop}{ag:Prop}{t:TypeId}(ht:P.underlying t=some (.slice e))(hgd:o.guard=none)(s x:Operand)
 (ho:o.op=.call { callee:=.builtin .append,args:=#[s,x],argTypes:=#[t,t] })(v:Value)(n:Nat)(xs:List Value)(hs:a.eval s=v)(hown:w.ownsRow 0 e size v n xs)
 (A:Option Addr)(m c:Nat)(news:List Value)(hx:a.eval x=.slice A m c)(hr:Reads w w.heap.size size A m news)(h1:∀u∈news,u.oneCell'=true)(hm:n+m<=1000000)(hbytes:bytes<=1000)(h0:0<n+m)
 (h:∀(g cap:Nat)(w':World),w'.ownsRow 0 e size (.slice (g,0) (n+m) cap) (n+m) (xs++news)->w.grownBy w' v.ownBlock->(some g=v.ownBlock\/g=w.heap.size)->K (a.put o.dst (.slice (g,0) (n+m) cap)) w'):
  if Region.wanted o (yielded ops a.tmps)=true then Oper.wp P o a w K Q else ag:=by
 obtain⟨i0,I0,I1,I2,I3⟩:=XA4 hinfo;refine LH w hgd s x t ho 0 e i0 z size bytes ht I0 I1 I2 I3 hzs hsz v n xs hs hown w.heap.size A m c news hx hr h1 qw (XAL (XDm hm hbytes) qf) (XAJ _) λv' w' h2 h3 h4=>?_;obtain⟨k,hk⟩:∃k,n+m=k+1:=⟨n+m-1,qd⟩;rw [hk] at h2;obtain⟨g,cap,rfl⟩:=ownsRow_succ h2;rw [<-hk] at h2 ⊢;exact h g cap w' h2 h3 (h4.imp (λe=>e) λe=>qfh)
theorem VD:prog.underlying 130=some (.slice 129):=underlying130
theorem WK:(prog.info? 129).map (λi=>(i.zero,i.size,i.bytes))=some (some (.agg #[I 0,I 0,.bool false]),3,24):=qh
section
variable{cl aD:Nat->Nat}{c:Nat}{w w':World}{b g n cap i:Nat}{G:Nat->Gp}{js:List Nat}
def FR(cl:Nat->Nat)(c:Nat)(w:World)(b n:Nat)(G:Nat->Gp)(e:Ending)(w':World):Prop:=
 ∃(r er:Int)(g' n' cap':Nat)(G':Nat->Gp),e=.returned (.tuple #[I r,I er])/\0<=r/\r<=16/\bA (ext cl w c) c w' b g' n' cap' G'/\Md cl [c] w w'/\n<=n'/\∀j,j<n->G' j=G j
theorem bA.same(h:bA cl c w b g n cap G){e:Ending}{er:Int}(he:e=.returned (.tuple #[I 0,I er])):FR cl c w b n G e w:=
 ⟨0,er,g,n,cap,G,he,qf,qf,h.cls (G9 cl w c),Md.refl _ _ _,XAB _,λ_ _=>rfl⟩
theorem VC{w:World}{g n cap:Nat}{G:Nat->Gp}{x:Gp}(h:w.ownsRow 0 129 3 (.slice (g,0) (n+1) cap) (n+1) (bM n (jc G)++tT x)):w.ownsRow 0 129 3 (.slice (g,0) (n+1) cap) (n+1) (bM (n+1) (jc (eE G n x))):=by
 have e:bM n (jc G)++tT x=bM (n+1) (jc (eE G n x)):=by
  rw [vE]
  congr 1
  .exact Iu λj hj=>by unfold jc eE;rw [XAD qd]
  .unfold jc eE;rw [XAE rfl]
 rw [<-e];exact h
theorem D6{cs:Array Value}{w3:World}{k:Nat}(hk:k<w.heap.size)(hne:k≠g)(hg3:(w.alloc (.cells cs 129)).drew.grownBy w3 (Value.slice (g,0) n cap).ownBlock):w3.heap[k]? =w.heap[k]? :=
 (hg3.block k (by show k<(w.alloc _).heap.size;simp;omega) (λe=>hne qfh)).trans (XAX w _ k hk)
theorem bA.ne(h:bA cl c w b g n cap G):b≠g:=λe=>own_ne h.own.1 h.blk qf qjp
theorem abJ{cs:Array Value}{w3:World}(h:bA cl c w b g n cap G)(hg3:(w.alloc (.cells cs 129)).drew.grownBy w3 (Value.slice (g,0) n cap).ownBlock):w3.cell? (b,0)=some (.slice (g,0) n cap):=
 (XAP (w:=w) (D6 h.blk.lt h.ne hg3)).trans (h.blk.cell 0)
theorem abI{cs:Array Value}{w3:World}(h:bA cl c w b g n cap G)(hg3:(w.alloc (.cells cs 129)).drew.grownBy w3 (Value.slice (g,0) n cap).ownBlock):w3.frozen? (b,0)=false:=
 (XAh (w:=w) (D6 h.blk.lt h.ne hg3)).trans (h.blk.frozen 0)
theorem aaO{cs:Array Value}{w3:World}{g3 cap3 d i:Nat}(h:bA cl c w b g n cap G)(hi:i<n)(hd:(G i).d=d)(hl:¬(n=16\/d=8))(ho3:w3.ownsRow 0 129 3 (.slice (g3,0) (n+1) cap3) (n+1) (bM n (jc G)++tT ⟨i+1,d+1,false⟩))
 (hg3:(w.alloc (.cells cs 129)).drew.grownBy w3 (Value.slice (g,0) n cap).ownBlock)(hq3:some g3=(Value.slice (g,0) n cap).ownBlock\/g3=(w.alloc (.cells cs 129)).drew.heap.size):
  bA (ext cl w c) c (w3.setCell (b,0) (.slice (g3,0) (n+1) cap3)) b g3 (n+1) cap3 (eE G n ⟨i+1,d+1,false⟩)/\Md cl [c] w (w3.setCell (b,0) (.slice (g3,0) (n+1) cap3)):=by
 have l1:=h.blk.lt;have l2:=h.gl;have hs3:=hg3.size;have hsz:(w.alloc (.cells cs 129)).drew.heap.size=w.heap.size+1:=by show(w.alloc _).heap.size=_;simp
 have hn1:=h.ok.n1;have hn2:=h.ok.n2;have hdi:=h.ok.dep i hi;have e3:g3=g\/g3=w.heap.size+1:=hq3.imp (λe=>qfh) λe=>e.trans hsz;have hb3:w3.heap[b]? =w.heap[b]? :=D6 l1 h.ne hg3;have t_:g3≠b:=e3.elim (λe=>by rw [e];exact λe=>h.ne e.symm) λe=>qd
 have hr:=VC ho3;have hr2:=cM hr (w':=w3.setCell (b,0) (.slice (g3,0) (n+1) cap3)) λg' hg'=>XAN w3 _ _ g' (by have e:g3=g':=qbg;rw [<-e];exact t_);refine⟨⟨ak.aJ (cs:=#[.slice (some ⟨g,0,none⟩) n cap]) (hb3.trans h.blk) 0 _,⟨hr2,λg' hg'=>?_⟩,(dG l1).trans h.cb,⟨qd,qd,λj hj=>?_,λj h0 hj=>?_,λj hj=>?_,?_⟩⟩,?_⟩
 .refine⟨cO hr2 hg',?_⟩;have e:g3=g':=by simpa [Value.ownBlock] using hg'
  rw [<-e];rcases e3 with e|e
  .rw [e];exact(dG l2).trans h.cg
  .exact mA qd
 .unfold eE;split
  .show i+1<=j;omega
  .exact h.ok.par j qd
 .unfold eE;split
  .exact Nat.le_add_left _ _
  .exact h.ok.pos j h0 qd
 .unfold eE;split
  .show 1<=d+1/\d+1<=8;omega
  .exact h.ok.dep j qd
 .unfold eE;rw [XAD qd];exact h.ok.root
 .refine((((Md.refl cl [c] w).alloc _).drew).grown hg3 λg' hg' _=>?_).set (λ_=>by rw [h.cb];simp) 0 _;have e:g=g':=by simpa [Value.ownBlock] using hg'
  rw [<-e,h.cg];simp
theorem acF(w:World)(h:bA cl c w b g n cap G)(hi:i<n):Z 125 #[(b,0),I ((i:Int)+1)] w (FR cl c w b n G):=by
 have H:=XAA h;have c0:w.cell? (b,0)=some (.slice (g,0) n cap):=h.blk.cell 0;obtain⟨-,p1,p2⟩:=h.at_ hi;have hn2:=h.ok.n2;have hd:=h.ok.dep i hi;obtain⟨d,hdd⟩:=Xq ((G i).d);rw [hdd] at p1 hd;have l1:=h.blk.lt;have l2:=h.gl;clear h;by_cases hof:(G i).off=true
 .rw [hof] at p2;clear hof;go_enter func125,ntmps125;go_wp2_with (first|(go_at_call 173;refine Xr (mS _ H.out) ?_)|(go_at_call 176;refine Xr (og _ H.out hi) ?_))
  go_ret2
  exact H.out.same rfl
 .have vW:(G i).off=false:=by simpa using hof
  rw [vW] at p2;clear hof vW;by_cases hlim:n=16\/d=8
  .rcases (by omega:n=16\/(¬n=16/\d=8)) with h1|⟨h1,h2⟩
   .have t1:((n:Int)==16)=true:=by simp;omega
    clear hlim h1;go_enter func125,ntmps125;go_wp2_with (first|(go_at_call 173;refine Xr (mS _ H.out) ?_)|(go_at_call 176;refine Xr (og _ H.out hi) ?_))
    go_ret2
    exact H.out.same rfl
   .have t1:((n:Int)==16)=false:=by simp;omega
    have t2:((d:Int)==8)=true:=qj;clear hlim h1 h2;go_enter func125,ntmps125;go_wp2_with (first|(go_at_call 173;refine Xr (mS _ H.out) ?_)|(go_at_call 176;refine Xr (og _ H.out hi) ?_))
    go_ret2
    exact H.out.same rfl
  .have t1:((n:Int)==16)=false:=by simp;omega
   have t2:((d:Int)==8)=false:=qj;have HL:=XAA hlim;have ML:Hid (n<=15):=XAA qd;clear hlim;have hO:=((H.out.own.below ((XAC _ w).alloc (XAB _) (.cells #[I ((i:Int)+1),I ((d:Int)+1),.bool false] 129))).1).drew;have hR:=(Reads.lit w 129 #[I ((i:Int)+1),I ((d:Int)+1),.bool false] 1 3 R).drew;have HO:=XAA hO;have HR:=XAA hR;clear hO hR;have wd:IntKind.i64.wrap ((d:Int)+1)=(d:Int)+1:=XAM _ qd;have q0:=fs c0;have q1:=fs p1;go_enter func125,ntmps125;go_wp2_with (first|(go_at_call 173;refine Xr (mS _ H.out) ?_)|(go_at_call 176;refine Xr (og _ H.out hi) ?_));go_region_law (refine iS WK R qf VD R _ _ qu _ n (bM n (jc G)) qu HO.out (some ⟨w.heap.size,0,none⟩) 1 1 (tT ⟨i+1,d+1,false⟩) qu HR.out (by simp [tT,Value.oneCell']) qd qf qd ?_;intro g3 cap3 w3 ho3 hg3 hq3;have y1:=abJ H.out hg3;have f1:=abI H.out hg3);all_goals
    obtain⟨hT,hM⟩:=aaO H.out hi hdd HL.out ho3 hg3 hq3;clear y1 f1 ho3 hg3 hq3;generalize w3.setCell (b,0) (.slice (g3,0) (n+1) cap3)=w5 at hT hM ⊢;have z0:w5.cell? (b,0)=some (.slice (g3,0) (n+1) cap3):=hT.blk.cell 0;have HT:=XAA hT;clear hT;go_wp2
    go_ret2
    exact⟨(n:Int)+1,0,g3,n+1,cap3,_,R,qd,(by have:=ML.out;omega),HT.out,hM,XAU n,λj hj=>by unfold eE;rw [XAD qd]⟩
end
section
open Go.Shelf
theorem BO{P:Program}{ρ:Ren}(L:SlLaysE0.n41 P ρ){i0:TypeInfo}{z:Value}{size bytes:Nat}(hi:P.info? (ρ.t 23)=some i0/\i0.zero=some z/\i0.size=size/\i0.bytes=bytes)(hzs:z.cells.size=size)(hsz:0<size)
 (z23:∀w,(Go.sizeOf (ρ.t 23)).run P w=.ok size w){w:World}{v:Value}{n:Nat}{xs:List Value}(h:w.ownsRow 0 (ρ.t 23) size v n xs)(hn:n<=1000000)(hb:bytes<=1000)(h1:∀u∈xs,u.oneCell'=true):
  Calls P (ρ.f 41) #[v] w λe w'=>∃v',e=.returned v'/\w'.ownsRow w.heap.size (ρ.t 23) size v' n xs/\Below w w w':=by
 obtain⟨a1,a2,a3,a4⟩:=hi;have hl:=h.1;have hbig:n*bytes<=1000000*1000:=XDm hn hb;rcases h.2 with⟨rfl,h2⟩|⟨g,cap,cur,rfl,h3⟩
 .refine(AnyE.slices_Clone_nil L 0 0 w).mono λe w' ⟨e1,e2⟩=>⟨_,e1,?_,by rw [e2];exact XAC _ _⟩;subst h2;exact⟨hl,.inl ⟨R,R⟩⟩
 .exact(AnyE.slices_Clone L i0 z size bytes a1 a2 a3 a4 hzs hsz z23 g 0 n cap xs w hl qw qd (λj u hu=>by rw [XAV];exact(kU h hu).1) h1).mono λe w' ⟨v',e1,e2,_,e3⟩=>⟨v',e1,e2,e3⟩
theorem JG{w:World}{v:Value}{n:Nat}{xs:List Int}(h:w.ownsRow 0 3 1 v n (xs.map (Value.int .i64)))(hn:n<=1000000):Z 21 #[v] w λe w'=>∃v',e=.returned v'/\w'.ownsRow w.heap.size 3 1 v' n (xs.map (Value.int .i64))/\Below w w w':=by
 have hl:xs.length=n:=by have:=h.1;simpa using this
 rcases h.2 with⟨rfl,h2⟩|⟨g,cap,cur,rfl,h3⟩
 .refine(slices_Clone_int_nil 0 0 w).mono λe w' ⟨e1,e2⟩=>⟨_,e1,?_,by rw [e2];exact XAC _ _⟩;subst h2;exact⟨h.1,.inl ⟨R,R⟩⟩
 .refine(slices_Clone_int g 0 n cap xs w qd qd λj hj=>?_).mono λe w' ⟨v',e1,e2,_,e3⟩=>⟨v',e1,?_,e3⟩
  .rw [XAV];refine(kU h ?_).1;rw [XAa,XAO hj,XBA,XAO hj];rfl
  .rw [XCA qd] at e2;exact e2
end
section
open Go.Shelf
attribute [local go_sem] Oper.semAt_some
structure Ge where
 i:Nat
 g:Nat
 h:g<=16
def vA(x:Ge):Array Value:=#[nV x.i,nV x.g]
def vz(P:List Nat)(i:Nat):Ge:=if h:P.getD i 0<=16 then⟨i,P.getD i 0,h⟩ else⟨i,0,qf⟩
def rH(P:List Nat):Nat->List Ge
 |0=> []
 |n+1=>vz P n::rH P n
theorem yj(P:List Nat):∀n,(rH P n).length=n
 |0=>rfl
 |n+1=>XAK (· +1) (yj P n)
theorem Rg(A:Option Addr)(n c:Nat)(w:World):Z 102 #[.slice A n c] w λe w'=>e=.returned (.func (.func 143) #[] #[(w.heap.size,0)])/\w'=w.alloc (.cells #[.slice A n c] 25):=by
 go_enter func102,ntmps102;go_wp2;go_ret;exact⟨R,R⟩
def MB(L:List Ge)(ab Jx:List Ge->World->Prop)(e:Ending)(W':World):Prop:=(∃v,e=.returned v)/\((∃ys,ys=L/\ab ys W')\/(∃pre:List Ge,True/\Jx pre W'))
theorem Qw(l B g c:Nat)(A:Option Addr)(P:List Nat)(hA:0<P.length->A=some ⟨g,0,none⟩)(hP:∀x∈P,x<=16)(hn:P.length<=64)(ab Jx:List Ge->World->Prop)
 (hY:∀pre x W,ab pre W->pre.length<P.length->YieldAt Fence.wide 7 prog l (vA x) W λe W'=>(e=.returned (.bool true)/\ab (pre++ [x]) W'/\dL [g,B] W W')\/(e=.returned (.bool false)/\Jx (pre++ [x]) W'))
 (W:World)(hB:Boxed W B 25 (.slice A P.length c))(hr:∀j,j<P.length->W.cell? ⟨g,j,none⟩=some (nV (P.getD j 0)))(h0:ab [] W):
  CallsIn Fence.wide 8 prog 143 #[.func (.yield l) #[] #[],.pointer (B,0)] W (MB (rH P P.length) ab Jx):=by
 refine XDs func143 R trivial ?_ rfl;simp only [ntmps143,List.size_toArray,List.length_cons,List.length_nil,Nat.reduceAdd,Nat.reduceSub,Array.replicate_succ,Array.replicate_zero,List.push_toArray,List.append_toArray,List.nil_append,List.cons_append];obtain⟨n,hn2⟩:=Xq P.length;have HN:=XAA hn2;rw [hn2] at hA hn hY hB hr ⊢;clear hn2;have c0:=hB.cell
 gi_wp2
 gi_loopw [3] (λi wr=>∃(k:Nat)(pre:List Ge),k<=n/\i=I ((k:Int)-1)/\pre++rH P k=rH P n/\dL [g,B] W wr/\ab pre wr) (λi _=>(intOf i+1).toNat)
 case atStart=>exact⟨n, [],XAB _,R,R,dL.refl _ _,h0⟩
 case round=>
  obtain⟨k,pre,hk,rfl,hpre,hb,hj⟩:=hrel;cases k with
  |zero=>
   gi_wp2
   go_end0;exact⟨⟨_,R⟩,.inl ⟨_,R,by rw [<-hpre];simpa [rH] using hj⟩⟩
  |succ k=>
   have hA1:=hA qd;subst hA1;have hB':Boxed wr B 25 (.slice (g,0) n c):=(hb.blk B ql).trans hB;have c1:=hB'.cell;have d1:=(XAP (w:=W) (w':=wr) (a:=⟨g,k,none⟩) (hb.blk g ql)).trans (hr k qd);have hle:P.getD k 0<=16:=hP _ (by
    have hl:k<P.length:=by rw [HN.out];omega
    rw [XBA,XAO hl]
    exact XCu hl)
   have hx:Hid (vA (vz P k)=#[I k,nV (P.getD k 0)]):=XAA (by unfold vA vz;rw [dif_pos hle]);have hlen:pre.length<n:=by have:=XAK List.length hpre;rw [XAZ,yj,yj] at this;omega
   have t0:(0:Int)<=(k:Int):=qd;have t1:¬(k:Int)<0:=qd;have t2:¬n<=k:=qd;have t3:¬(n:Int)<=(k:Int):=qd;have lJ:=hY pre (vz P k) wr hj hlen;rw [hx.out] at lJ;obtain⟨fn,tmps,assign,body,hy,hR⟩:=lJ;have HP:=XAA hpre;generalize P.getD k 0=q at d1 hy hx;clear hpre hle hlen
   gi_wp2
   refine hR.mono ?_;rintro e W3 (⟨rfl,hJ3,hk3⟩|⟨rfl,hJx3⟩)
   .gi_wp2
    go_roundw
    case rel=>exact⟨k,pre++ [vz P k],qd,qbf,by rw [<-HP.out,XB1];rfl,hb.trans hk3,hJ3⟩
    case measure=>simp [intOf]
   .gi_wp2
    refine XAI (XAm R _ _ _) R ?_;exact⟨⟨_,R⟩,.inr ⟨_,trivial,hJx3⟩⟩
theorem Rh(B g c:Nat)(A:Option Addr)(P:List Nat)(w:World)(hA:0<P.length->A=some ⟨g,0,none⟩)(hP:∀x∈P,x<=16)(hn:P.length<=64)(hB:Boxed w B 25 (.slice A P.length c))(hr:∀j,j<P.length->w.cell? ⟨g,j,none⟩=some (nV (P.getD j 0))):
  SeqStopsK Fence.wide 8 prog 143 #[(B,0)] vA (dL [g,B]) (λys=>ys=rH P P.length) (λ_=>True) P.length w:=λl ab Jx W hW _ _ hY h0=>
 Qw l B g c A P hA hP hn ab Jx hY W ((hW.block B hB.lt).trans hB) (λj hj=>cell_below hW (hr j hj)) h0
end
end Go.Proofs.YtedefgjfgdcfdaaGreatDoor
