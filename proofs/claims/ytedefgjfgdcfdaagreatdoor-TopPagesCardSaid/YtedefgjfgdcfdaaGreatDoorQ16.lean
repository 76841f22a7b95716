/- Walks and laws for TopPages. -/
import Derived.Test.YtedefgjfgdcfdaaGreatDoorQ14
import Derived.Test.YtedefgjfgdcfdaaGreatDoorQ15
import Derived.RangeFuncBound
import Derived.RangeFuncCalls
import Derived.RangeFuncLeaves
import Derived.Shelf.Abstract
import Derived.Shelf.RegionOpen
import Derived.OwnWalkIn
import Derived.TacticsInMore
import Derived.LoopNIn
import Derived.LoopIn
namespace Go.Proofs.YtedefgjfgdcfdaaGreatDoor
open Go.RowKit Go.Proofs.Tryz
set_option maxRecDepth 100000
set_option maxHeartbeats 4000000
section
open Go.Shelf
abbrev nV(x:Nat):Value:=I x
structure cI(cl:Nat->Nat)(c:Nat)(w:World)(b lb C:Nat)(L:Nat->List Nat)(V:Nat->Value):Prop where
 blk:ak w b 144 #[.slice (some ⟨lb,0,none⟩) C C,I 6]
 row:aG w lb 25 ((List.range C).map V)
 own:∀i,i<C->Own cl c w 3 1 (V i) (L i).length ((L i).map nV)
 apart:∀i j g,i<C->j<C->(V i).ownBlock=some g->(V j).ownBlock=some g->i=j
 len:∀i,i<C->(L i).length<=6
 c1:1<=C
 c8:C<=8
 cb:cl b=c
 aK:cl lb=c
section
variable{cl aD:Nat->Nat}{c:Nat}{w w':World}{b lb C k:Nat}{L:Nat->List Nat}{V:Nat->Value}{js:List Nat}
theorem cI.md(h:cI cl c w b lb C L V)(hm:Md cl js w w')(hc:c∉js):cI cl c w' b lb C L V:=
 ⟨hm.blk h.blk qjm,hm.row h.row (by rw [h.aK];exact hc),λi hi=>(h.own i hi).md hm hc,h.apart,h.len,h.c1,h.c8,h.cb,h.aK⟩
theorem cI.below(h:cI cl c w b lb C L V)(hb:Below w w w'):cI cl c w' b lb C L V:=
 ⟨h.blk.below hb,h.row.below hb,λi hi=>(h.own i hi).below hb,h.apart,h.len,h.c1,h.c8,h.cb,h.aK⟩
theorem cI.cls(h:cI cl c w b lb C L V)(he:∀k,k<w.heap.size->aD k=cl k):cI aD c w b lb C L V:=
 ⟨h.blk,h.row,λi hi=>(h.own i hi).cls he,h.apart,h.len,h.c1,h.c8,(he _ h.blk.lt).trans h.cb,(he _ h.row.lt).trans h.aK⟩
theorem cI.c0(h:cI cl c w b lb C L V):w.cell? ⟨b,0,none⟩=some (.slice (some ⟨lb,0,none⟩) C C):=h.blk.cell 0
theorem cI.at_(h:cI cl c w b lb C L V)(hk:k<C):w.cell? ⟨lb,k,none⟩=some (V k):=h.row.cell k _ qgz
theorem uk(w:World)(h:cI cl c w b lb C L V)(hk:k<C):Z 56 #[.pointer (some ⟨b,0,none⟩),I k] w λe w'=>e=.returned (.pointer (some ⟨lb,k,none⟩))/\w'=w:=by
 have c0:=h.c0;have a1:¬(k:Int)<0:=qd
 have a2:¬(C:Int)<=(k:Int):=qd;have a3:¬C<=k:=qd;clear h;go_enter func56,ntmps56;go_wp2;go_ret;exact⟨R,R⟩
structure Nl(w:World) where
 v:Value
 l:List Nat
 h:∀W,Below w w W->W.ownsRow 0 3 1 v l.length (l.map nV)
instance(w:World):Inhabited (Nl w):=⟨⟨.slice none 0 0, [],λ_ _=>⟨R,.inl ⟨R,R⟩⟩⟩⟩
theorem R8(w:World)(v:Value)(l:List Nat)(p:Nat)(h:w.ownsRow 0 3 1 v l.length (l.map nV)):Z 54 #[v,I p] w λe w'=>e=.returned (.bool (l.contains p))/\w'=w:=by
 have e1:∀l:List Nat,((l.map Int.ofNat).contains (p:Int))=l.contains p:=by
  intro l;induction l with
  |nil=>rfl
  |cons x l ih=>simp only [XBw,List.contains_cons,ih];congr 1;rw [XBM,beq_iff_eq,beq_iff_eq];exact Int.ofNat_inj
 rcases h.2 with⟨rfl,hn⟩|⟨g,cap,cur,rfl,-,h2,h3,h4,h5,h6⟩
 .have hl:l= []:=XBN hn;subst hl;exact slices_Contains_int_empty none 0 p w
 .have hc:=slices_Contains_int g 0 l.length cap (l.map Int.ofNat) p w (XAs (XAY ..).symm) (XAL h3 h4) λj hj=>by
   rw [XAY] at hj;have:=(XEi h j qd).trans (by rw [XAa,XAO hj];rfl:_=some (nV l[j]));rw [XAV,this];simp [hj]
  rw [XCA ql,e1] at hc;exact hc
theorem Zl(p B:Nat)(w:World)(hB:B<w.heap.size)(hc:w.cell? ⟨B,0,none⟩=some (I p)):PredAt prog 53 #[.pointer (some ⟨B,0,none⟩)] (λx:Nl w=>x.v) (λx=>x.l.contains p) w:=λW x hb=>by
 have hc':=(hb.cell (p:=⟨B,0,none⟩) hB).trans hc;have hx:=R8 W x.v x.l p (x.h W hb);show Z 53 #[x.v,.pointer (some ⟨B,0,none⟩)] W λe w'=>e=.returned (.bool (x.l.contains p))/\∃q,w'=W.drewN q;generalize x.l.contains p=bb at hx ⊢;generalize x.v=v at hx ⊢;clear hc hb;go_enter func53,ntmps53;go_wp2_with (go_at_call 54;refine hx.mono ?_;rintro e w' ⟨rfl,rfl⟩);go_ret;exact⟨R,0,R⟩
def rX(C:Nat)(L:Nat->List Nat)(p:Nat):Bool:=(List.range C).any λi=>(L i).contains p
theorem PF{α:Type}(f:Nat->α)(q:α->Bool)(C:Nat):((List.range C).map f).any q=(List.range C).any λi=>q (f i):=by rw [List.any_map];rfl
theorem Ky(w:World)(h:cI cl c w b lb C L V)(p:Nat):Z 32 #[.pointer (some ⟨b,0,none⟩),I p] w λe w'=>e=.returned (.bool (rX C L p))/\Below w w w':=by
 have c0:=h.c0;have bl:=h.blk.lt;obtain⟨w1,hw1⟩:∃w1,w1=w.alloc (.cells #[I p] 3):=⟨_,R⟩;have hb1:Below w w w1:=by rw [hw1];exact(XAC _ _).alloc (XAB _) _
 have h1:=h.below hb1;have hx:∀i,i<C->∀W,Below w1 w1 W->W.ownsRow 0 3 1 (V i) (L i).length ((L i).map nV):=λi hi W hb=>((h1.own i hi).below hb).1;have eg:∀args w,(callFunc 53 args).run prog w=.ok (.enter 53 args) w:=enters_of func53 qh rfl;have hcon:=AnyE.slices_ContainsFunc acQ (λx:Nl w1=>x.v) (λx=>x.l.contains p) 53 #[.pointer (some ⟨w.heap.size,0,none⟩)] eg lb 0 C C
  ((List.range C).map λi=>if hi:i<C then(⟨V i,L i,hx i hi⟩:Nl w1) else default) w1 (Zl p w.heap.size w1 (by rw [hw1];simp) (by rw [hw1];simp)) ql (by have:=h.c8;omega) λj hj=>by rw [XAY,XEQ] at hj;rw [XAV,h1.at_ hj];simp [hj]
 change Z 52 _ _ _ at hcon;rw [XCA ql,PF] at hcon;have e2:((List.range C).any λi=>((if hi:i<C then(⟨V i,L i,hx i hi⟩:Nl w1) else default).l.contains p))=rX C L p:=by unfold rX;rw [XBM,XCI,XCI];refine exists_congr λi=>and_congr_right λhi=>?_;rw [dif_pos (XAu.1 hi)]
 rw [e2] at hcon;generalize rX C L p=r at hcon ⊢;subst hw1;clear h h1 hx e2 eg;go_enter func32,ntmps32;go_wp2_with (go_at_call 52;refine hcon.mono ?_;rintro e w' ⟨rfl,q,rfl⟩);go_ret;exact⟨R,XCr hb1 q⟩
theorem G9(cl:Nat->Nat)(w:World)(j:Nat):∀k,k<w.heap.size->ext cl w j k=cl k:=λ_ h=>dG h
theorem Kh{α:Type}(f:Nat->α)(C k:Nat)(x:α):((List.range C).map f).set k x=(List.range C).map λi=>if i=k then x else f i:=by
 apply XA5;intro j;rw [XBm,XAY,XEQ];by_cases hj:j<C
 .rw [XAa,XAa,XBX hj];by_cases e:k=j
  .subst e;simp [hj]
  .rw [XAD e];simp [show ¬j=k from λe'=>e e'.symm]
 .rw [XAd qj,XAd qj];split
  .split
   .omega
   .rfl
  .rfl
theorem cI.put(h:cI cl c w b lb C L V)(hk:k<C){w1:World}(hm:∀i,i≠k->i<C->(V i).ownBlock=none\/∀g,(V i).ownBlock=some g->w1.heap[g]? =w.heap[g]?)(h1:w1.heap[b]? =w.heap[b]?)(h2:w1.heap[lb]? =w.heap[lb]?)(hs:w.heap.size<=w1.heap.size)
 (v:Value)(l:List Nat)(ho:w1.ownsRow 0 3 1 v l.length (l.map nV))(hl:l.length<=6)(hg:∀g,v.ownBlock=some g->(w.heap.size<=g\/(V k).ownBlock=some g)):
  cI (ext cl w c) c (w1.setCell ⟨lb,k,none⟩ v) b lb C (λi=>if i=k then l else L i) (λi=>if i=k then v else V i):=by
 have hne:b≠lb:=λe=>by obtain⟨cs,q1,-⟩:=h.row;have q2:=h.blk;unfold ak at q1 q2;rw [e,q1] at q2;simp at q2
 have hne2:∀g vs,w1.heap[g]? =some (.cells vs 3 (0,0))->g≠lb:=λg vs hg e=>by obtain⟨cs,q1,-⟩:=h.row;unfold ak at q1;rw [<-h2,<-e,hg] at q1;simp at q1
 have far:∀{v':Value}{n:Nat}{xs:List Value},w1.ownsRow 0 3 1 v' n xs->(w1.setCell ⟨lb,k,none⟩ v).ownsRow 0 3 1 v' n xs:=λ{v' n xs} ho'=>by
  refine cM ho' λg hg=>XAN w1 _ v g (λe=>?_);rcases ho'.2 with⟨rfl,-⟩|⟨g',cap,cur,rfl,-,q2,-⟩
  .cases hg
  .have:g'=g:=by simpa [Value.ownBlock] using hg
   subst this;exact hne2 _ _ q2 e
 have hz:(w1.setCell ⟨lb,k,none⟩ v).heap.size=w1.heap.size:=qbt;refine⟨ak.far (h1.trans h.blk) hne v,?_,λi hi=>?_,λi j g hi hj e1 e2=>?_,λi hi=>?_,h.c1,h.c8,(dG h.blk.lt).trans h.cb,(dG h.row.lt).trans h.aK⟩
 .have:=(h.row.heap h2).set k v
  rwa [Kh] at this
 .by_cases e:i=k
  .subst e;rw [XAE R,XAE rfl];refine⟨far ho,λg hg'=>⟨by rw [hz];exact cO ho hg',?_⟩⟩;rcases hg g hg' with q|q
   .exact mA q
   .have q3:=(h.own i hi).2 g q;exact(dG q3.1).trans q3.2
  .rw [XAD e,XAD e];have q:=h.own i hi;refine⟨far (cM q.1 λg hg'=>?_),λg hg'=>⟨by rw [hz];exact XAH (q.2 g hg').1 hs,(dG (q.2 g hg').1).trans (q.2 g hg').2⟩⟩;rcases hm i e hi with q1|q1
   .rw [q1] at hg';cases hg'
   .exact q1 g hg'
 .have key:∀i,i<C->i≠k->∀g,(V i).ownBlock=some g->v.ownBlock=some g->False:=λi hi hik g q1 q2=>by
   rcases hg g q2 with q|q
   .have:=((h.own i hi).2 g q1).1;omega
   .exact hik (h.apart i k g hi hk q1 q)
  by_cases ei:i=k
  .by_cases ej:j=k
   .rw [ei,ej]
   .simp only [XAE ei,XAD ej] at e1 e2;exact(key j hj ej g e2 e1).elim
  .by_cases ej:j=k
   .simp only [XAD ei,XAE ej] at e1 e2;exact(key i hi ei g e1 e2).elim
   .simp only [XAD ei,XAD ej] at e1 e2;exact h.apart i j g hi hj e1 e2
 .show(if i=k then l else L i).length<=6;by_cases e:i=k
  .rw [XAE e];exact hl
  .rw [XAD e];exact h.len i hi
def nR(n:Nat):Nat:=if 6<n+1 then(n+1+1) / 2 else 0
def FF(cl:Nat->Nat)(c:Nat)(w:World)(b lb C:Nat)(L:Nat->List Nat)(k p:Nat)(e:Ending)(w':World):Prop:=
 ∃(A:Option Addr)(V':Nat->Value),e=.returned (.tuple #[.slice A (nR (L k).length) (nR (L k).length),I 0])/\Row w' A (((L k++ [p]).take (nR (L k).length)).map nV)/\
  cI (ext cl w c) c w' b lb C (λi=>if i=k then(L k++ [p]).drop (nR (L k).length) else L i) V'/\Md cl [c] w w'/\(∀g o,A=some ⟨g,o,none⟩->o=0/\ext cl w c g=c)
theorem sk:prog.underlying 25=some (.slice 3):=XBl
theorem BQ(w:World)(g n cap:Nat)(l:List Nat)(h:w.ownsRow 0 3 1 (.slice (some ⟨g,0,none⟩) n cap) n (l.map nV))(m k:Nat)(hk:m+k=n)(hn:n<=1000)(c':Nat):Z 21 #[.slice (some ⟨g,m,none⟩) k c'] w λe w'=>
  ∃v',e=.returned v'/\w'.ownsRow w.heap.size 3 1 v' k ((l.drop m).map nV)/\Below w w w':=by
 have hl:l.length=n:=by simpa using h.1
 have hc:=slices_Clone_int g m k c' ((l.drop m).map Int.ofNat) w qj qd λj hj=>by
  rw [XAY,XB6] at hj;have e1:(l.map nV)[m+j]? =some (nV l[m+j]):=by rw [XAa,XAO qd];rfl
  rw [(XEi h (m+j) qd).trans e1,XBA,XAa,XDU,XAO qd];rfl
 refine hc.mono λe w' ⟨v',h1,h2,_,h4⟩=>⟨v',h1,?_,h4⟩;rw [XCA qj,XC8] at h2;exact h2
theorem own_base{base:Nat}{e:TypeId}{size n:Nat}{v:Value}{xs:List Value}(h:w.ownsRow base e size v n xs):w.ownsRow 0 e size v n xs/\∀g,v.ownBlock=some g->base<=g:=by
 obtain⟨h1,h2⟩:=h;rcases h2 with⟨rfl,h2⟩|⟨g,cap,cur,rfl,h4,h5⟩
 .exact⟨⟨h1,.inl ⟨R,h2⟩⟩,λg hg=>qce⟩
 .exact⟨⟨h1,.inr ⟨g,cap,cur,R,XAJ _,h5⟩⟩,λg' hg=>by
   have e':g=g':=qcp
   rw [<-e'];exact h4⟩
theorem ZL(g n cap:Nat)(l:List Nat)(h:w.ownsRow 0 3 1 (.slice (some ⟨g,0,none⟩) n cap) n (l.map nV))(m:Nat)(_:m<=n):Row w (some ⟨g,0,none⟩) ((l.take m).map nV):=by
 have hr:=Row.gj h;intro hp;obtain⟨b,off,e,hb,hc⟩:=hr (by simp at hp ⊢;omega);refine⟨b,off,e,hb,λj u hu=>hc j u ?_⟩;rw [XAa] at hu ⊢;by_cases hj:j<m
 .rwa [XDa hj] at hu
 .rw [List.getElem?_take_eq_none qd] at hu;cases hu
theorem own_ne{w:World}{e t:TypeId}{size n:Nat}{v:Value}{xs:List Value}{g:Nat}{cs:Array Value}(h:w.ownsRow 0 e size v n xs)(hb:ak w g t cs)(he:e≠t):v.ownBlock≠some g:=λhg=>by
 rcases h.2 with⟨rfl,-⟩|⟨g',cap,cur,rfl,-,q2,-⟩
 .cases hg
 .have:g'=g:=by simpa [Value.ownBlock] using hg
  subst this;unfold ak at hb;rw [hb] at q2;simp at q2;exact he q2.2.symm
theorem KP{w:World}{v:Value}{n p:Nat}{l:List Nat}(h:w.ownsRow 0 3 1 v n (l.map nV++ [nV p])):w.ownsRow 0 3 1 v n ((l++ [p]).map nV):=by rw [XBB];exact h
theorem ZK{w:World}{g n p cap:Nat}{l:List Nat}(h:w.ownsRow 0 3 1 (.slice (some ⟨g,0,none⟩) (n+1) cap) (n+1) ((l++ [p]).map nV)):w.ownsRow 0 3 1 (.slice (some ⟨g,0,none⟩) n cap) n (l.map nV):=by
 obtain⟨h1,h2⟩:=h;have hl:l.length=n:=by simpa using h1
 refine⟨by simpa using hl,?_⟩;rcases h2 with⟨h2,-⟩|⟨g',cap',cur,h2,h3,h4,h5,h6,h7,h8⟩
 .cases h2
 .injection h2 with e1 _ e2;injection e1 with e1;injection e1 with e1;subst e1 e2;refine .inr ⟨g,cap,cur,R,h3,h4,qd,h6,h7,?_⟩;rw [Nat.mul_one] at h8 ⊢;rw [XBB] at h8;have e:cur.toList.take n=(l.map nV++ [p].map nV).take n:=by rw [<-h8,List.take_take,XC9 (XAU n)]
  rw [e];exact List.take_left' (by rw [XAY];exact hl)
theorem lP{w:World}{e:TypeId}{size n g cap:Nat}{xs:List Value}(h:w.ownsRow 0 e size (.slice (some ⟨g,0,none⟩) n cap) n xs):n<=cap:=by
 rcases h.2 with⟨h,-⟩|⟨g',cap',cur,h,-,-,q,-⟩
 .cases h
 .injection h with _ _ h;omega
theorem Row.far{w:World}{A:Option Addr}{xs:List Value}(h:Row w A xs){q:Addr}(hne:∀g off,A=some ⟨g,off,none⟩->g≠q.block)(u:Value):Row (w.setCell q u) A xs:=λhp=>by
 obtain⟨b,off,e,hb,hc⟩:=h hp;exact⟨b,off,e,by simpa [World.setCell] using hb,λj v hj=>(XEM w q _ u (λe'=>hne b off e (by rw [e']))).trans (hc j v hj)⟩
theorem Kz{n m r g cap k3 p:Nat}{v:Value}{A3:Option Addr}{w1 w2 w3:World}(h:cI cl c w b lb C L V)(hk:k<C)(hL:(L k).length=n)(hv:V k=v)(hm:nR n=m)(hr:m+r=n+1)(hr6:r<=6)(hb1:Below w w w1)
 (hg2:(w1.alloc (.cells #[I p] 3)).grownBy w2 v.ownBlock)(HO:w2.ownsRow 0 3 1 (.slice (some ⟨g,0,none⟩) (n+1) cap) (n+1) ((L k++ [p]).map nV))
 (HQ:some g=v.ownBlock\/g=(w1.alloc (.cells #[I p] 3)).heap.size)(hb3:Below w2 w2 w3)(H3:w3.ownsRow w2.heap.size 3 1 (.slice A3 r k3) r (((L k++ [p]).drop m).map nV)):
  FF cl c w b lb C L k p (.returned (.tuple #[.slice (some ⟨g,0,none⟩) m m,I 0])) (w3.setCell ⟨lb,k,none⟩ (.slice A3 r k3)):=by
 have hs1:=hb1.size;have hs2:=hg2.size;rw [XAT] at hs2 HQ;have hs3:=hb3.size;have hO:=h.own k hk;rw [hL,hv] at hO;have e2:∀k,k<w.heap.size->some k≠v.ownBlock->w3.heap[k]? =w.heap[k]? :=λk hk h1=>(hb3.block k qd).trans (((hg2.block k (by rw [XAT];omega) h1).trans (XAX w1 _ k qd)).trans (hb1.block k hk));have nb:some b≠v.ownBlock:=λe=>own_ne hO.1 h.blk qf e.symm;have nl:some lb≠v.ownBlock:=λe=>by obtain⟨cs,q,-⟩:=h.row;exact own_ne hO.1 q qf e.symm
 have hlb:=h.row.lt;have hgl:g≠lb:=λe=>by
  rcases HQ with q|q
  .exact nl (by rw [<-e];exact q)
  .omega
 obtain⟨MM,MN⟩:=own_base H3;refine⟨some ⟨g,0,none⟩,λi=>if i=k then .slice A3 r k3 else V i,by rw [hL,hm],?_,?_,?_,λg' o' hg'=>?_⟩
 .rw [hL,hm];exact Row.far ((ZL g (n+1) cap (L k++ [p]) HO m qd).below hb3) (λg' off e=>by injection e with e;injection e with e;subst e;exact hgl) _
 .rw [hL,hm];refine h.put hk (w1:=w3) (λi hi yM=>?_) (e2 b h.blk.lt nb) (e2 lb hlb nl) qd (.slice A3 r k3) _ ?_ ?_ λg' hg'=>.inl ?_
  .cases hq:(V i).ownBlock with
   |none=>exact .inl rfl
   |some g'=>
    refine .inr λg2 CN=>?_;injection CN with CN;subst CN;exact e2 g' ((h.own i yM).2 g' hq).1 λe=>hi (h.apart i k g' yM hk hq (by rw [hv];exact e.symm))
  .have:((L k++ [p]).drop m).length=r:=by simp [hL];omega
   rw [this];exact MM
  .simp [hL];omega
  .have:=MN g' hg';omega
 .refine(((Md.of_below cl [c] hb1).alloc _).grown hg2 λg' hg' hlt=>?_).below hb3|>.set (λ_=>by rw [h.aK];simp) k _
  rw [(hO.2 g' hg').2];simp
 .injection hg' with hg';injection hg' with hg' ho';subst hg';refine⟨ho'.symm,?_⟩;rcases HQ with q|q
  .have:=hO.2 g q.symm;exact(dG this.1).trans this.2
  .exact mA qd
theorem Zo(w:World)(h:cI cl c w b lb C L V)(hk:k<C)(p:Nat)(hp:p<1024)(hn:rX C L p=false):Z 136 #[.pointer (some ⟨b,0,none⟩),I k,I p] w (FF cl c w b lb C L k p):=by
 have HN:=XAA h;have hx:=Ky w h p;rw [hn] at hx;have HX:=XAA hx;have je:=h.len k hk;obtain⟨n,hL⟩:=Xq ((L k).length);rw [hL] at je;have HL:=XAA hL;have c0:=h.c0;have c1:w.cell? ⟨b,1,none⟩=some (I 6):=h.blk.cell 1;obtain⟨v,hv⟩:=Xq (V k);have hrow:=(h.own k hk).1;rw [hL,hv] at hrow;have HV:=XAA hv;have ck:=h.at_ hk;rw [hv] at ck;have bl:=h.blk.lt;have ll:=h.row.lt;have fl:=h.row.frz k;have a0:((C:Int)==0)=false:=by have:=h.c1;rw [XAf];omega
 have a1:¬(p:Int)<0:=qd;have a2:¬(1024:Int)<=(p:Int):=qd;have a3:¬(1024:Nat)<=p:=qd;have wr:IntKind.i64.wrap ((n:Int)+1+1)=(n:Int)+1+1:=XAM _ qd;have HR:=XAA hrow;have nb:some b≠v.ownBlock:=λe=>own_ne hrow h.blk qf e.symm;have nl:some lb≠v.ownBlock:=λe=>by obtain⟨cs,q,-⟩:=h.row;exact own_ne hrow q qf e.symm
 clear h hx hL hv hrow;rcases (by omega:n=6\/n<6) with rfl|Je
 .go_enter func136,ntmps136;go_wp2_with (first|(go_at_call 56;refine Xr (uk _ HN.out hk) ?_)|(go_at_call 32;refine HX.out.mono ?_;rintro e w1 ⟨rfl,hb1⟩;obtain⟨hc1,hf1⟩:=yg hb1)|(at_builtin;refine iW nP rfl qf sk rfl _ _ rfl v _ ((L k).map nV) rfl (own_below (own_below HR.out hb1) ((XAC _ _).alloc (XAB _) _)) (some ⟨w1.heap.size,0,none⟩) 1 1 [nV p] rfl (Reads.lit w1 3 #[nV p] 1 1 rfl) qk qd qf qd ?_;intro g cap w2 ho2 hg2 hq2;have e2:∀k,k<w.heap.size->some k≠v.ownBlock->w2.heap[k]? =w.heap[k]? :=λk hk h1=>((hg2.block k (by have:=hb1.size;simp;omega) h1).trans (XAX w1 _ k (by have:=hb1.size;omega))).trans (hb1.block k hk);have q1:w2.cell? ⟨b,1,none⟩=some (I 6):=(XAP (w:=w) (e2 b bl nb)).trans c1;have HO:=XAA (KP ho2);have HQ:=XAA hq2;have HE:=XAA e2;have cp:=lP ho2;have cp4:¬cap=4:=qd;clear hc1 hf1 ho2 hq2 e2)|(go_at_call 21;refine(BQ w2 g (6+1) cap (L k++ [p]) HO.out 4 3 qd qd _).mono ?_;rintro e w3 ⟨v3,rfl,ho3,hb3⟩;obtain⟨A3,k3,rfl,hr3⟩:=Row.slice ho3;clear hr3;have q3:w3.cell? ⟨lb,k,none⟩=some v:=(XAP (w:=w) ((hb3.block lb qdi).trans (HE.out lb ll nl))).trans ck;have q4:w3.frozen? ⟨lb,k,none⟩=false:=(XAh (w:=w) ((hb3.block lb qdi).trans (HE.out lb ll nl))).trans fl;have H3:=XAA ho3;clear ho3))
  go_ret2
  exact Kz HN.out hk HL.out HV.out R R qd hb1 hg2 HO.out HQ.out hb3 H3.out
 .go_enter func136,ntmps136;go_wp2_with (first|(go_at_call 56;refine Xr (uk _ HN.out hk) ?_)|(go_at_call 32;refine HX.out.mono ?_;rintro e w1 ⟨rfl,hb1⟩;obtain⟨hc1,hf1⟩:=yg hb1)|(at_builtin;refine iW nP rfl qf sk rfl _ _ rfl v _ ((L k).map nV) rfl (own_below (own_below HR.out hb1) ((XAC _ _).alloc (XAB _) _)) (some ⟨w1.heap.size,0,none⟩) 1 1 [nV p] rfl (Reads.lit w1 3 #[nV p] 1 1 rfl) qk qd qf qd ?_;intro g cap w2 ho2 hg2 hq2;have e2:∀k,k<w.heap.size->some k≠v.ownBlock->w2.heap[k]? =w.heap[k]? :=λk hk h1=>((hg2.block k (by have:=hb1.size;simp;omega) h1).trans (XAX w1 _ k (by have:=hb1.size;omega))).trans (hb1.block k hk);have q1:w2.cell? ⟨b,1,none⟩=some (I 6):=(XAP (w:=w) (e2 b bl nb)).trans c1;have HO:=XAA (KP ho2);have HQ:=XAA hq2;have HE:=XAA e2;have cp:=lP ho2;have cp4:¬cap=0:=qd;clear hc1 hf1 ho2 hq2 e2)|(go_at_call 21;refine(BQ w2 g (n+1) cap (L k++ [p]) HO.out 0 (n+1) qd qd _).mono ?_;rintro e w3 ⟨v3,rfl,ho3,hb3⟩;obtain⟨A3,k3,rfl,hr3⟩:=Row.slice ho3;clear hr3;have q3:w3.cell? ⟨lb,k,none⟩=some v:=(XAP (w:=w) ((hb3.block lb qdi).trans (HE.out lb ll nl))).trans ck;have q4:w3.frozen? ⟨lb,k,none⟩=false:=(XAh (w:=w) ((hb3.block lb qdi).trans (HE.out lb ll nl))).trans fl;have H3:=XAA ho3;clear ho3))
  go_ret2
  exact Kz HN.out hk HL.out HV.out (XAD qd) qd qd hb1 hg2 HO.out HQ.out hb3 H3.out
def OB(cl:Nat->Nat)(c:Nat)(w:World)(b lb C:Nat)(L:Nat->List Nat)(k:Nat)(e:Ending)(w':World):Prop:=
 (e=.returned (.tuple #[I 0,.bool false])/\L k= []/\w'=w)\/
 ∃(p:Nat)(l:List Nat)(V':Nat->Value),e=.returned (.tuple #[nV p,.bool true])/\L k=l++ [p]/\cI (ext cl w c) c w' b lb C (λi=>if i=k then l else L i) V'/\Md cl [c] w w'
theorem Zp(w:World)(h:cI cl c w b lb C L V)(hk:k<C):Z 194 #[.pointer (some ⟨b,0,none⟩),I k] w (OB cl c w b lb C L k):=by
 have HN:=XAA h;have je:=h.len k hk;have ck:=h.at_ hk;have fl:=h.row.frz k;obtain⟨n,hL⟩:=Xq ((L k).length);obtain⟨v,hv⟩:=Xq (V k);have hO:=h.own k hk;rw [hL,hv] at hO;rw [hv] at ck;rw [hL] at je;have HL:=XAA hL;have HV:=XAA hv;clear h hL hv;cases n with
 |zero=>
  have hx:∃A cp,v=.slice A 0 cp:=by
   rcases hO.1.2 with⟨rfl,-⟩|⟨g,cap,cur,rfl,-⟩
   .exact⟨_,_,R⟩
   .exact⟨_,_,R⟩
  obtain⟨A,cp,rfl⟩:=hx;clear hO;go_enter func194,ntmps194;go_wp2_with (first|(go_at_call 56;refine Xr (uk _ HN.out hk) ?_))
  go_ret2
  exact .inl ⟨R,XBN HL.out,R⟩
 |succ n=>
  obtain⟨g,cap,rfl⟩:=ownsRow_succ hO.1;have hcap:=lP hO.1;obtain⟨l,p,hlp⟩:∃l p,L k=l++ [p]:=by
   have hne:L k≠ []:=λe=>by have:=HL.out;rw [e] at this;simp at this
   exact⟨_,_,(List.dropLast_concat_getLast hne).symm⟩
  have hln:l.length=n:=by have:=HL.out;rw [hlp] at this;simpa using this
  have cp:w.cell? ⟨g,n,none⟩=some (I p):=by rw [XEi hO.1 n qd,XAa,hlp,XBy qd,hln,XDL];rfl
  have HP:=XAA hlp;have HO:=XAA hO;have wr:IntKind.i64.wrap ((n:Int)+1-1)=n:=by rw [Int.add_sub_cancel];exact XAM _ qd
  clear hO hlp;go_enter func194,ntmps194;go_wp2_with (first|(go_at_call 56;refine Xr (uk _ HN.out hk) ?_));all_goals go_ret2
  have h:=HN.out;have hO:=HO.out;have e:=h.put hk (w1:=w) (λi hi yM=>.inr λ_ _=>rfl) R R (XAB _) (.slice (some ⟨g,0,none⟩) n cap) l (by rw [hln];exact ZK (by have:=hO.1;rwa [HP.out] at this)) qd (λg' hg'=>.inr (by rw [HV.out];exact hg'));exact .inr ⟨p,l,_,R,HP.out,e,(Md.refl cl [c] w).set (λ_=>by rw [h.aK];simp) k _⟩
def Oz(cl:Nat->Nat)(c:Nat)(w:World)(b lb C:Nat)(L:Nat->List Nat)(k:Nat)(e:Ending)(w':World):Prop:=
 ∃(A:Option Addr)(cap:Nat)(V':Nat->Value),e=.returned (.slice A (L k).length cap)/\Row w' A ((L k).map nV)/\(∀g,A=some ⟨g,0,none⟩->cl g=c)/\(∀g o,A=some ⟨g,o,none⟩->o=0)/\(L k).length<=6/\
  cI (ext cl w c) c w' b lb C (λi=>if i=k then [] else L i) V'/\Md cl [c] w w'
theorem Zk(w:World)(h:cI cl c w b lb C L V)(hk:k<C):Z 223 #[.pointer (some ⟨b,0,none⟩),I k] w (Oz cl c w b lb C L k):=by
 have HN:=XAA h;have ck:=h.at_ hk;have fl:=h.row.frz k;have hO:=h.own k hk;obtain⟨A,cap,hv,hr⟩:=Row.slice hO.1;rw [hv] at ck;have HO:=XAA hO;have HV:=XAA hv;have HR:=XAA hr;clear h hO hv hr;go_enter func223,ntmps223;go_wp2_with (first|(go_at_call 56;refine Xr (uk _ HN.out hk) ?_));go_ret;have h:=HN.out;have hO:=HO.out;rw [HV.out] at hO;have hA:∀g o,A=some ⟨g,o,none⟩->o=0/\Value.ownBlock (.slice A (L k).length cap)=some g:=λg o e=>by
  subst e;rcases hO.1.2 with⟨e,-⟩|⟨g',cap',cur,e,-⟩
  .cases e
  .injection e with e;injection e with e;injection e with e1 e2;exact⟨e2,R⟩
 have e:=h.put hk (w1:=w) (λi hi yM=>.inr λ_ _=>rfl) R R (XAB _) (.slice none 0 0) [] ⟨R,.inl ⟨R,R⟩⟩ ql (λg' hg'=>by cases hg');refine⟨A,cap,_,R,Row.far HR.out (λg off e=>?_) _,λg e=>(hO.2 g (hA g 0 e).2).2,λg o e=>(hA g o e).1,h.len k hk,e,(Md.refl cl [c] w).set (λ_=>by rw [h.aK];simp) k _⟩;intro e';obtain⟨cs,q,-⟩:=h.row;have e'':g=lb:=e';exact own_ne hO.1 q qf (by rw [<-e''];exact(hA g off e).2)
theorem Zm(w:World)(h:cI cl c w b lb C L V)(hk:k<C):Z 34 #[.pointer (some ⟨b,0,none⟩),I k] w λe w'=>∃A cap,e=.returned (.slice A (L k).length cap)/\Below w w w':=by
 have HN:=XAA h;have ck:=h.at_ hk;have hO:=(h.own k hk).1;have hl:=h.len k hk;obtain⟨v,hv⟩:=Xq (V k);rw [hv] at ck hO;have hc:Z 21 #[v] w λe w'=>∃A cap,e=.returned (.slice A (L k).length cap)/\Below w w w':=by
  rcases hO.2 with⟨rfl,hn⟩|⟨g,cap,cur,rfl,-⟩
  .rw [hn];refine(slices_Clone_int_nil 0 0 w).mono ?_;rintro e w' ⟨rfl,rfl⟩;exact⟨none,0,R,XAC _ _⟩
  .refine(BQ w g _ cap (L k) hO 0 _ (XAV _) qd cap).mono ?_;rintro e w' ⟨v',rfl,h1,h2⟩;obtain⟨A,c',rfl,-⟩:=Row.slice h1;exact⟨A,c',R,h2⟩
 generalize (L k).length=n at hc ⊢;have HC:=XAA hc;clear h hO hv hc hl;go_enter func34,ntmps34;go_wp2_with (first|(go_at_call 56;refine Xr (uk _ HN.out hk) ?_)|(go_at_call 21;refine HC.out.mono ?_;rintro e w1 ⟨A,cap,rfl,hb⟩));go_ret;exact⟨A,cap,R,hb⟩
def OA(cl:Nat->Nat)(c:Nat)(w:World)(C:Nat)(e:Ending)(w':World):Prop:=
 ∃b lb,e=.returned (.tuple #[.pointer (some ⟨b,0,none⟩),I 0])/\cI (ext cl w c) c w' b lb C (λ_=> []) (λ_=>.slice none 0 0)/\Below w w w'
theorem WM:(prog.info? 25).map (λi=>(i.zero,i.size,i.bytes))=some (some (.slice none 0 0),1,24):=qh
theorem Zn(w:World)(C:Nat)(h1:1<=C)(h2:C<=8):Z 46 #[I C,I 6] w (OA cl c w C):=by
 have m1:=λv=>nZ (P:=prog) 142 25 (.slice none 0 0) 24 1 underlying142 WM .i64 .i64 C qd qd v;have a1:¬(C:Int)<1:=qd
 have a2:¬(8:Int)<(C:Int):=qd;go_enter func46,ntmps46;go_wp2
 go_ret2
 refine⟨w.heap.size+1,w.heap.size,R,⟨ak.new2 _ _ _ _,?_,λi hi=>Own.nil _ _ _ _ _,λi j g _ _ hg=>qce,λ_ _=>XAJ _,h1,h2,mA (XAU _),mA (XAB _)⟩,qa⟩;have h5:=(ak.new w 25 (madeCells #[.slice none 0 0] C)).alloc (.cells #[.slice (some ⟨w.heap.size,0,none⟩) C C,I 6] 144);have h6:=aG.jP h5;have e:(madeCells #[.slice none 0 0] C).toList=(List.range C).map λ_=>Value.slice none 0 0:=by
  apply XA5;intro j;rw [XBO,XAa];by_cases hj:j<C
  .rw [ug hj qf,XBX hj];simp
  .rw [XAz qed,XAd qj];rfl
 rw [e] at h6;exact h6
end
end
section
open Go.Shelf
abbrev zu(p:Pg):List Value:= [I p.k,I p.o,I p.c]
def fA(T:Tab)(i:Nat):List Value:=zu (T i)
def ee(w:World)(g n:Nat)(T:Tab):Prop:=aG w g 98 (bM n (fA T))
section
variable{w w':World}{g n:Nat}{T:Tab}
theorem ee.at_(h:ee w g n T){i:Nat}(hi:i<n):w.cell? (g,i*3)=I (T i).k/\w.cell? (g,i*3+1)=I (T i).o/\w.cell? (g,i*3+2)=I (T i).c:=
 ⟨aG.cell h _ _ (kN (m:=3) (F:=fA T) (λ_=>rfl) n i 0 hi qf),aG.cell h _ _ (kN (m:=3) (F:=fA T) (λ_=>rfl) n i 1 hi qf),aG.cell h _ _ (kN (m:=3) (F:=fA T) (λ_=>rfl) n i 2 hi qf)⟩
theorem ee.below(h:ee w g n T)(hb:Below w w w'):ee w' g n T:=aG.below h hb
end
theorem hd_ok(k o c:Int)(w:World)(h0:0<=o)(h1:o<=10)(hk:(k=0/\c=0)\/(k=2/\1<=c/\c<=8)):Z 95 #[.agg #[I k,I o,I c]] w λe w'=>e=.returned (.bool true)/\Below w w w':=by
 have a1:¬o<0:=qd;have a2:¬10<o:=qd;rcases hk with⟨rfl,rfl⟩|⟨rfl,h2,h3⟩
 .go_enter func95,ntmps95;go_wp2;go_ret;exact⟨R,qa⟩
 .have a3:0<=c:=by omega
  go_enter func95,ntmps95;go_wp2;go_ret;exact⟨R,qa⟩
def wM(p:Pg):Bool:= !((p.k==1) && ((p.o==0) && (p.c==0)))
theorem Zi(a b c x y z:Int)(w:World):(binOp .neq 98 (.agg #[I a,I b,I c]) (.agg #[I x,I y,I z])).run prog w=.ok (.bool (!((a==x) && ((b==y) && (c==z))))) w:=by
 by_cases ha:a=x<;>by_cases hb:b=y<;>by_cases hc:c=z<;>simp [go_sem,ha,hb,hc]
theorem WQ(w:World):PredBelow prog 97 #[] (λp=>.agg (zu p).toArray) wM w:=λW x hb=>by
 have q:=Zi x.k x.o x.c 1 0 0;show Z 97 #[.agg #[I x.k,I x.o,I x.c]] W λe w'=>e=.returned (.bool (wM x))/\Below w w w';unfold wM;generalize (!((x.k==1) && ((x.o==0) && (x.c==0))))=bb at q ⊢;go_enter func97,ntmps97;go_wp2;go_ret;exact⟨R,hb.alloc hb.size _⟩
theorem Ps:∀o:Fin 11,bits .and .i64 (o.val:Int) 15=(o.val:Int):=qco
theorem Pt(o:Nat)(h:o<=10):bits .and .i64 (o:Int) 15=(o:Int):=Ps ⟨o,qd⟩
theorem Pv:∀o:Fin 11,∀a:Fin 1024,(a.val % 2 ^ o.val==0)=(bits .and .i64 (a.val:Int) (((2 ^ o.val:Nat):Int)-1)==0):=qco
theorem F5(o a:Nat)(h:o<=10)(ha:a<1024):(bits .and .i64 (a:Int) (((2 ^ o:Nat):Int)-1)==0)=(a % 2 ^ o==0):=(Pv ⟨o,qd⟩ ⟨a,ha⟩).symm
theorem ac0:∀o:Fin 11,∀a:Fin 1024,a.val % 2 ^ o.val=0->bits .xor .i64 (a.val:Int) ((2 ^ o.val:Nat):Int)=if a.val % 2 ^ (o.val+1)=0 then(a.val:Int)+((2 ^ o.val:Nat):Int) else(a.val:Int)-((2 ^ o.val:Nat):Int):=qco
theorem Mi(o a:Nat)(h:o<=10)(ha:a<1024)(hal:a % 2 ^ o=0):bits .xor .i64 (a:Int) ((2 ^ o:Nat):Int)=if a % 2 ^ (o+1)=0 then(a:Int)+((2 ^ o:Nat):Int) else(a:Int)-((2 ^ o:Nat):Int):=ac0 ⟨o,qd⟩ ⟨a,ha⟩ hal
theorem pQ{o:Nat}(h:o<=10):1<=2 ^ o/\2 ^ o<=1024:=⟨two_pos o,wO h⟩
end
section
open Go.Shelf
attribute [local go_sem] Oper.semAt_some
theorem BF(A:Option Addr)(n c:Nat)(w:World):Z 68 #[.slice A n c] w λe w'=>e=.returned (.func (.func 94) #[] #[(w.heap.size,0)])/\w'=w.alloc (.cells #[.slice A n c] 93):=by
 go_enter func68,ntmps68;go_wp2;go_ret;exact⟨R,R⟩
instance:Inhabited Pg:=⟨iw⟩
theorem GI(w:World)(g off k cap:Nat)(hg:g<w.heap.size)(hk:k<=1024)(hc:∀j,j<k->w.cell? (g,off+j*3)=I 1/\w.cell? (g,off+j*3+1)=I 0/\w.cell? (g,off+j*3+2)=I 0):
  Z 96 #[.slice (g,off) k cap,.func (.func 97) #[] #[]] w λe w'=>e=.returned (.bool false)/\Below w w w':=by
 have eg:∀args w,(callFunc 97 args).run prog w=.ok (.enter 97 args) w:=enters_of func97 qh rfl;have hcon:=AnyQ.slices_ContainsFunc acR 3 isAgg98 sizeOf98 zu (λ_=>rfl) wM 97 #[] eg g off k cap (List.replicate k iw) w (WQ w) ql qd hg (λj hj i v hi=>by
  rw [XCD] at hj
  have h1:=hc j hj
  have e:(List.replicate k iw)[j]! =iw:=by simp [hj]
  rw [e] at hi
  match i,hi with
  |0,hi=>simp [iw] at hi;rw [<-hi];exact h1.1
  |1,hi=>simp [iw] at hi;rw [<-hi];exact h1.2.1
  |2,hi=>simp [iw] at hi;rw [<-hi];exact h1.2.2
  |i+3,hi=>simp at hi)
 change Z 96 _ _ _ at hcon;have e:((List.replicate k iw).take k).any wM=false:=by rw [List.any_eq_false];intro x hx;have:=(XEb.1 (XDr hx)).2;subst this;decide
 rw [e] at hcon;exact hcon
theorem wZ(o:Nat)(h:o<=10):wrap64 ((2:Int) ^ o)=((2 ^ o:Nat):Int):=by
 have:=(pQ h).2;rw [show((2:Int) ^ o)=((2 ^ o:Nat):Int) by rw [Int.natCast_pow];rfl];obtain⟨N,hN⟩:=Xq (2 ^ o);rw [hN] at this ⊢;exact XBZ _ qd
structure Be where
 a:Nat
 o:Nat
 k:Int
 c:Int
 h:o<=10/\a<1024
def eF(T:Tab)(x:Nat × Nat):Be:=if h:x.2<=10/\x.1<1024 then⟨x.1,x.2,(T x.1).k,(T x.1).c,h⟩ else⟨0,0,0,0,qd⟩
theorem Aa(T:Tab){a o:Nat}(h1:o<=10)(h2:a<1024):(eF T (a,o)).a=a/\(eF T (a,o)).o=o/\(eF T (a,o)).k=(T a).k/\(eF T (a,o)).c=(T a).c:=by unfold eF;rw [dif_pos ⟨h1,h2⟩];exact⟨R,R,R,R⟩
def su(x:Be):Array Value:=#[nV x.a,.agg #[I x.k,I x.o,I x.c]]
structure cV(g B:Nat)(W W':World):Prop where
 size:W.heap.size<=W'.heap.size
 tab:W'.heap[g]? =W.heap[g]?
 box:W'.heap[B]? =W.heap[B]?
theorem cV.refl(g B:Nat)(W:World):cV g B W W:=⟨XAB _,R,R⟩
theorem cV.trans{g B:Nat}{X af ae:World}(h:cV g B X af)(k:cV g B af ae):cV g B X ae:=⟨XAL h.size k.size,k.tab.trans h.tab,k.box.trans h.box⟩
theorem cV.of_below{g B:Nat}{W W':World}(h:Below W W W')(hg:g<W.heap.size)(hB:B<W.heap.size):cV g B W W':=⟨h.size,h.block g hg,h.block B hB⟩
theorem cV.set{g B:Nat}(W:World)(p:Addr)(u:Value)(h1:g≠p.block)(h2:B≠p.block):cV g B W (W.setCell p u):=⟨qbt,XAN W p u g h1,XAN W p u B h2⟩
theorem cV.drew(g B:Nat)(W:World):cV g B W W.drew:=⟨XAB _,R,R⟩
theorem Dt{g B:Nat}{w:World}(hg:g<w.heap.size)(hB:B<w.heap.size)(W:World)(l:Nat)(o o':Obj)(h:w.heap.size<=l)(_:W.heap[l]? =some o)(_:o.isCells=false)(_:o.isWalk=false):cV g B W (W.putObj l o'):=
 ⟨qje,World.putObj_heap_other qd,World.putObj_heap_other qd⟩
def MA(L:List (Nat × Nat))(T:Tab)(ab Jx:List Be->World->Prop)(e:Ending)(W':World):Prop:=(∃v,e=.returned v)/\((∃ys,ys=L.map (eF T)/\ab ys W')\/(∃pre,pre<+:L.map (eF T)/\Jx pre W'))
theorem Qr(l B g n c:Nat)(T:Tab)(hn:n<=1024)(hnc:n<=c)(ab Jx:List Be->World->Prop)(L:List (Nat × Nat))(hL:Seg T 0 n L)
 (hY:∀pre x W,ab pre W->pre.length<L.length->YieldAt Fence.wide 7 prog l (su x) W λe W'=>(e=.returned (.bool true)/\ab (pre++ [x]) W'/\cV g B W W')\/(e=.returned (.bool false)/\Jx (pre++ [x]) W'))
 (W:World)(hB:W.cell? (B,0)=some (.slice (g,0) n c))(hg:g<W.heap.size)(hBn:B<W.heap.size)(hr:ee W g n T)(hJ:∀(q:List Be) A A',ab q A->Below A A A'->ab q A')(h0:ab [] W):
  CallsIn Fence.wide 8 prog 94 #[.func (.yield l) #[] #[],.pointer (B,0)] W (MA L T ab Jx):=by
 refine XDs XDt R trivial ?_ rfl;simp only [ntmps94,List.size_toArray,List.length_cons,List.length_nil,Nat.reduceAdd,Nat.reduceSub,Array.replicate_succ,Array.replicate_zero,List.push_toArray,List.append_toArray,List.nil_append,List.cons_append]
 gi_wp2
 gi_loopw [3] (λi wr=>∃(L1 L2:List (Nat × Nat))(a:Nat),L=L1++L2/\i=I a/\Seg T 0 a L1/\Seg T a n L2/\cV g B W wr/\ab (L1.map (eF T)) wr) (λi _=>n-(intOf i).toNat)
 case atStart=>exact⟨[],L,0,R,R,.nil _,hL,cV.refl _ _ _,h0⟩
 case round=>
  obtain⟨L1,L2,a,hl,rfl,s1,s2,hb,hj⟩:=hrel;have hB':wr.cell? (B,0)=_:=(XAP (w:=W) hb.box).trans hB;cases s2 with
  |nil=>
   have a1:¬(n:Int)<(n:Int):=qd
   gi_wp2
   go_end0;subst hl;exact⟨⟨_,R⟩,.inl ⟨L1.map (eF T),ql,hj⟩⟩
  | @cons _ _ o L2 hd s3=>
   have hlt:a<n:=by have:=s3.le;have:=two_pos o;omega
   have hle:=s3.le;have hp:=ee.at_ hr hlt;have p0:=(XAP (w:=W) (w':=wr) (a:=⟨g,a*3,none⟩) hb.tab).trans hp.1;have p1:=(XAP (w:=W) (w':=wr) (a:=⟨g,a*3+1,none⟩) hb.tab).trans hp.2.1;have p2:=(XAP (w:=W) (w':=wr) (a:=⟨g,a*3+2,none⟩) hb.tab).trans hp.2.2;rw [hd.ord] at p1;have hgw:g<wr.heap.size:=XAH hg hb.size;have hBw:B<wr.heap.size:=XAH hBn hb.size;have BP:=ak.new wr 98 #[I (T a).k,I o,I (T a).c];obtain⟨k,hk⟩:=Xq ((T a).k);obtain⟨cc,hcc⟩:=Xq ((T a).c);have hkind:=hd.kind;rw [hk] at p0 hkind BP;rw [hcc] at p2 hkind BP;have ho:=hd.pM;have HX:Hid (su (eF T (a,o))=#[I a,.agg #[I k,I o,I cc]]):=XAA (by obtain⟨e1,e2,e3,e4⟩:=Aa T ho (show a<1024 from qd);unfold su;rw [e1,e2,e3,e4,hk,hcc]);obtain⟨N,hN⟩:=Xq (2 ^ o);have hN1:=pQ ho;have hm:=F5 o a ho qd;rw [hd.al] at hm;have hin:∀j,j<N-1->∀W',Below wr wr W'->W'.cell? (g,(a+1)*3+j*3)=I 1/\W'.cell? (g,(a+1)*3+j*3+1)=I 0/\W'.cell? (g,(a+1)*3+j*3+2)=I 0:=λj hj W' hW=>by have hp:=ee.at_ hr (i:=a+(1+j)) qd;rw [hd.ins (1+j) qd qd,show(a+(1+j))*3=(a+1)*3+j*3 from qd] at hp;exact⟨(hW.cell (p:=⟨g,_,none⟩) hgw).trans ((XAP (w:=W) (w':=wr) (a:=⟨g,_,none⟩) hb.tab).trans hp.1),(hW.cell (p:=⟨g,_,none⟩) hgw).trans ((XAP (w:=W) (w':=wr) (a:=⟨g,_,none⟩) hb.tab).trans hp.2.1),(hW.cell (p:=⟨g,_,none⟩) hgw).trans ((XAP (w:=W) (w':=wr) (a:=⟨g,_,none⟩) hb.tab).trans hp.2.2)⟩
   have HI:=XAA hin;have hsh:Hid (wrap64 ((2:Int) ^ o)=(N:Int)):=XAA (hN ▸ wZ o ho);rw [hN] at hm hN1 hle;have HN:=XAA hN;have h15:=Pt o ho;have Fj:=hsh;clear hsh;have HD:=XAA hd;have HL:=XAA hl;clear hp hN hin hd hl hk hcc;have a1:(a:Int)<(n:Int):=qd
   have o0:(0:Int)<=(o:Int):=qd;have o1:(o:Int)<=10:=qd;have hk1:Hid (a+N-(a+1)<=1024):=XAA qd;by_cases hca:c=a+1
   .have HC:Hid (∀W',Below wr wr W'->∀j,j<a+N-(a+1)->W'.cell? (g,0+j*3)=I 1/\W'.cell? (g,0+j*3+1)=I 0/\W'.cell? (g,0+j*3+2)=I 0):=XAA λW' hW j hj=>absurd hj qd
    gi_wp2_with (first
     |(refine⟨trivial,?_⟩;gi_at_call 95;rw [Fj.out];(with_reducible refine(XAp.2 (hd_ok k o cc _ o0 o1 hkind)).mono ?_);rintro e w1 ⟨rfl,hb1⟩;have hbw:=df hb1;have q1:w1.cell? (B,0)=some (.slice (g,0) n c):=(hbw.cell (p:=⟨B,0,none⟩) hBw).trans hB';replace BP:=BP.below hb1;have b0:w1.cell? (wr.heap.size,0)=I k:=BP.cell 0;have b1:w1.cell? (wr.heap.size,1)=I o:=BP.cell 1;have b2:w1.cell? (wr.heap.size,2)=I cc:=BP.cell 2;have hgw1:=XAH hgw hbw.size;clear hb1)
     |(refine⟨trivial,?_⟩;gi_at_call 96;have hx:=GI w1 g 0 (a+N-(a+1)) 0 hgw1 hk1.out (HC.out w1 hbw);(with_reducible refine(XAp.2 hx).mono ?_);clear hx;rintro e w2 ⟨rfl,hb2⟩;have q2:=(hb2.cell (p:=⟨wr.heap.size,0,none⟩) BP.lt).trans b0;have q3:=(hb2.cell (p:=⟨wr.heap.size,1,none⟩) BP.lt).trans b1;have q4:=(hb2.cell (p:=⟨wr.heap.size,2,none⟩) BP.lt).trans b2;replace hbw:=bB hbw hb2;clear q1 b0 b1 b2 hb2))
    have lJ:=hY (L1.map (eF T)) (eF T (a,o)) w2 (hJ _ _ _ hj hbw) qhe;rw [HX.out] at lJ;obtain⟨fn,tmps,assign,body,hy,hR⟩:=lJ;rw [hy]
    gi_wp2
    refine hR.mono ?_;rintro e W3 (⟨rfl,hJ3,hk3⟩|⟨rfl,hJx3⟩)
    .gi_wp2
     go_roundw
     case rel=>exact⟨L1++ [(a,o)],L2,a+N,qhe,qbf,qge,by rw [<-HN.out];exact s3,hb.trans ((cV.of_below hbw hgw hBw).trans hk3),by rw [XBB];exact hJ3⟩
     case measure=>simp [intOf];omega
    .gi_wp2
     refine XAI (XAm R _ _ _) R ?_;exact⟨⟨_,R⟩,.inr ⟨L1.map (eF T)++ [eF T (a,o)],qhe,hJx3⟩⟩
   .have HC:Hid (∀W',Below wr wr W'->∀j,j<a+N-(a+1)->W'.cell? (g,(a+1)*3+j*3)=I 1/\W'.cell? (g,(a+1)*3+j*3+1)=I 0/\W'.cell? (g,(a+1)*3+j*3+2)=I 0):=XAA λW' hW j hj=>HI.out j qd W' hW
    gi_wp2_with (first
     |(refine⟨trivial,?_⟩;gi_at_call 95;rw [Fj.out];(with_reducible refine(XAp.2 (hd_ok k o cc _ o0 o1 hkind)).mono ?_);rintro e w1 ⟨rfl,hb1⟩;have hbw:=df hb1;have q1:w1.cell? (B,0)=some (.slice (g,0) n c):=(hbw.cell (p:=⟨B,0,none⟩) hBw).trans hB';replace BP:=BP.below hb1;have b0:w1.cell? (wr.heap.size,0)=I k:=BP.cell 0;have b1:w1.cell? (wr.heap.size,1)=I o:=BP.cell 1;have b2:w1.cell? (wr.heap.size,2)=I cc:=BP.cell 2;have hgw1:=XAH hgw hbw.size;clear hb1)
     |(refine⟨trivial,?_⟩;gi_at_call 96;have hx:=GI w1 g ((a+1)*3) (a+N-(a+1)) (c-(a+1)) hgw1 hk1.out (HC.out w1 hbw);(with_reducible refine(XAp.2 hx).mono ?_);clear hx;rintro e w2 ⟨rfl,hb2⟩;have q2:=(hb2.cell (p:=⟨wr.heap.size,0,none⟩) BP.lt).trans b0;have q3:=(hb2.cell (p:=⟨wr.heap.size,1,none⟩) BP.lt).trans b1;have q4:=(hb2.cell (p:=⟨wr.heap.size,2,none⟩) BP.lt).trans b2;replace hbw:=bB hbw hb2;clear q1 b0 b1 b2 hb2))
    have lJ:=hY (L1.map (eF T)) (eF T (a,o)) w2 (hJ _ _ _ hj hbw) qhe;rw [HX.out] at lJ;obtain⟨fn,tmps,assign,body,hy,hR⟩:=lJ;rw [hy]
    gi_wp2
    refine hR.mono ?_;rintro e W3 (⟨rfl,hJ3,hk3⟩|⟨rfl,hJx3⟩)
    .gi_wp2
     go_roundw
     case rel=>exact⟨L1++ [(a,o)],L2,a+N,qhe,qbf,qge,by rw [<-HN.out];exact s3,hb.trans ((cV.of_below hbw hgw hBw).trans hk3),by rw [XBB];exact hJ3⟩
     case measure=>simp [intOf];omega
    .gi_wp2
     refine XAI (XAm R _ _ _) R ?_;exact⟨⟨_,R⟩,.inr ⟨L1.map (eF T)++ [eF T (a,o)],qhe,hJx3⟩⟩
end
section
open Go.Shelf
attribute [local go_sem] Oper.semAt_some
theorem cell_new_l(W:World)(v:Value)(t:TypeId):(W.alloc (.cells #[v] t)).cell? (W.heap.size,0)=some v/\(W.alloc (.cells #[v] t)).frozen? (W.heap.size,0)=false:=⟨(ak.new W t #[v]).cell 0,(ak.new W t #[v]).frozen 0⟩
theorem cell_alloc_l{W:World}{a:Addr}{v:Value}(o:Obj)(h:W.cell? a=some v):(W.alloc o).cell? a=some v:=cell_kept h (World.grownBy_alloc W o none) (λr e=>by cases e)
theorem frozen_alloc_l{W:World}{a:Addr}{v:Value}(o:Obj)(h:W.cell? a=some v)(hf:W.frozen? a=false):(W.alloc o).frozen? a=false:=(frozen_kept h (World.grownBy_alloc W o none) (λr e=>by cases e)).trans hf
theorem BG(B g n c:Nat)(T:Tab)(w:World)(hn:n<=1024)(hnc:n<=c)(L:List (Nat × Nat))(hL:Seg T 0 n L)(hB:w.cell? (B,0)=some (.slice (g,0) n c))(hBw:B<w.heap.size)(hr:ee w g n T):
  SeqStopsK Fence.wide 8 prog 94 #[(B,0)] su (cV g B) (λys=>ys=L.map (eF T)) (λpre=>pre<+:L.map (eF T)) L.length w:=λl ab Jx W hW hJ _ hY h0=>
 Qr l B g n c T hn hnc ab Jx L hL hY W ((hW.cell (p:=⟨B,0,none⟩) hBw).trans hB) (XAH hr.lt hW.size) (XAH hBw hW.size) (hr.below hW)
  (λq A A' hq hb=>hJ q A A' none hq ⟨hb.os,hb.tape,hb.output,hb.size,λk hk _=>hb.block k hk⟩ (λ_ e=>by cases e)) h0
theorem Hz(w:World)(g n c:Nat)(T:Tab)(hr:ee w g n T)(L:List (Nat × Nat))(hL:Seg T 0 n L)(h1:1<=n)(hn:n<=1024)(hnc:n<=c):Z 50 #[.slice (g,0) n c] w λe w'=>e=.returned (I 0)/\Below w w w':=by
 have hg:=aG.lt hr;have a0:((n:Int)==0)=false:=qec
 have a1:¬(1024:Int)<(n:Int):=qd;refine(XAp (n:=9)).1 ?_;refine callsIn_of_wp_marks func50 R trivial ?_ rfl;simp only [ntmps50,List.size_toArray,List.length_cons,List.length_nil,Nat.reduceAdd,Nat.reduceSub,Array.replicate_succ,Array.replicate_zero,List.push_toArray,List.append_toArray,List.nil_append,List.cons_append]
 gi_wp2_with (refine⟨trivial,?_⟩;gi_at_call 68;(with_reducible refine(XAp.2 (BF (some ⟨g,0,none⟩) n c _)).mono ?_);rintro e w' ⟨rfl,rfl⟩)
 have hs:=cell_new_l w (I 0) 38;have hb:=cell_new_l (w.alloc (.cells #[I 0] 38)) (.slice (g,0) n c) 93;rw [XAT] at hb;have hB0:Below w w ((w.alloc (.cells #[I 0] 38)).alloc (.cells #[.slice (g,0) n c] 93)):=((XAC _ w).alloc (XAB _) _).alloc ql _;refine wpIn_rangeFunc_ownF R qd (gf:=94) (lb:=#[.pointer (some ⟨w.heap.size+1,0,none⟩)]) R trivial (enters_of XDt qh R)
  (BG (w.heap.size+1) g n c T _ hn hnc L hL hb.1 ql (hr.below hB0)) cV.trans (Dt qj ql) (XAC _ _) (λ_=>rfl)
  (λ_ W=>(W.cell? ⟨w.heap.size,0,none⟩=I 0/\W.frozen? ⟨w.heap.size,0,none⟩=false)/\Below w w W)
  (λ_ _ _=>False)
  (OwnFrom.and (Own.from (λs A B row hs hg hr=>⟨cell_kept hs.1 hg hr,(frozen_kept hs.1 hg hr).trans hs.2⟩) _) (ownFrom_below (XAB _) qj))
  (λ_ _ _ _ _ hs _ _=>hs)
  ⟨⟨cell_alloc_l _ hs.1,frozen_alloc_l _ hs.1 hs.2⟩,hB0⟩
  (λx=> { tmps:=#[.slice (some ⟨g,0,none⟩) n c,undef,.pointer (some ⟨w.heap.size,0,none⟩),nV x.a,.slice (some ⟨g,0,none⟩) n c,I n,.bool false,.bool false,.slice (some ⟨g,0,none⟩) n c,I n,.bool false,.bool false,.slice (some ⟨g,0,none⟩) n c,
   .func (.func 94) #[] #[(w.heap.size+1,0)],nV x.a,.agg #[I x.k,I x.o,I x.c],undef,undef],defers:= [] }) ?assign ?body ?done ?stop
 case assign=>
  intro l x W K hK;unfold su
  gi_wp2
  exact hK
 case body=>
  rintro l pre x W ⟨⟨hc,hf⟩,hB⟩ _
  gi_wp2
  exact⟨KeepsOthers.refl _,cV.refl _ _ _,⟨hc,hf⟩,hB⟩
 case done=>
  rintro D ys W hD rfl ⟨⟨hc,hf⟩,hB⟩ hK
  gi_wp2
  have hK':=(KeepsOthers.setCell W ⟨w.heap.size,0,none⟩ (I 0)).same D _ hK rfl;refine⟨ql,.inl ⟨_,_,R,run_takeDeferred hK',?_⟩⟩;have hc5:=cell_kept (XEl W ⟨w.heap.size,0,none⟩ (I 0) (by rw [hc];rfl)) (grownBy_putObj' _ D (.deferred none)) (λr e=>qie);refine⟨I 0,?_,R,(hB.setCell (p:=⟨w.heap.size,0,none⟩) (XAB _) _).trans (belowK_b (w:=w) (XAB _) _ D _ _ (by simp at hD;omega) hK' R R)⟩;simp [results,f50,go_sem,hc5]
 case stop=>
  rintro D c pre W _ _ h _;exact h.elim
end
section
open Go.Shelf
attribute [local go_sem] Oper.semAt_some
theorem Qs{β:Type}(B0 B:Nat)(t:TypeId)(cs:Array Value):OwnFrom B0 (λ(_:β) W=>ak W B t cs):=λ_ W _ row hs hg hr=>
 (hg.block B hs.lt (λe=>by
  obtain⟨-,o,ho,hc⟩:=hr B e.symm
  unfold ak at hs
  rw [hs] at ho
  cases ho
  cases hc)).trans hs
theorem SS(x:Be):IntKind.i64.wrap ((x.a:Int)+IntKind.i64.wrap ((2:Int) ^ min x.o 64))=((x.a+2 ^ x.o:Nat):Int):=by
 have h1:=x.h;have h2:=wZ x.o h1.1;have h3:=(pQ h1.1).2;rw [XC9 qd,XDu,XDu,h2];clear h2;obtain⟨N,hN⟩:=Xq (2 ^ x.o);rw [hN] at h3 ⊢;rw [XBZ _ qd];omega
theorem IU{T:Tab}{p:Nat}{x:Be} :∀(L:List (Nat × Nat))(l:List Be)(a b:Nat),Seg T a b L->b<=1024->l++ [x]<+:L.map (eF T)->(∀y∈l,¬p<y.a+2 ^ y.o)->p<x.a+2 ^ x.o->eC L p=x.a
 | [],l,a,b,_,_,h,_,_=>by have:=h.length_le;simp at this
 |(a',o)::L,l,a,b,hs,hb,h,h1,h2=>by
  cases hs with
  |cons hd hs=>
   have hle:=hs.le;have:=two_pos o;obtain⟨e1,e2,-,-⟩:=Aa T hd.pM (show a'<1024 from qd);rw [XBw] at h;cases l with
   |nil=>
    rw [XAx,List.cons_prefix_cons] at h;rw [h.1,e1,e2] at h2;rw [h.1,e1];exact CH h2
   |cons y l=>
    rw [XA_,List.cons_prefix_cons] at h;have h3:=h1 y (XA1 ..);rw [h.1,e1,e2] at h3;rw [CI h3];exact IU L l _ b hs hb h.2 (λz hz=>h1 z (XBC _ hz)) h2
def N3(w:World)(g n c p:Nat)(x:Be)(a':Act)(W:World):Prop:=
 ∃Bx,w.heap.size+2<Bx/\ak W Bx 98 #[I x.k,I x.o,I x.c]/\
  a'= { tmps:=#[.slice (g,0) n c,I p,undef,.pointer (w.heap.size,0),.pointer (w.heap.size+1,0),nV x.a,.pointer (Bx,0),.slice (g,0) n c,
   .func (.func 94) #[] #[(w.heap.size+1+1,0)],nV x.a,.agg #[I x.k,I x.o,I x.c],undef,undef,undef,undef,undef,undef,undef,undef],defers:= [] }
def Fo(w:World)(p:Nat)(pre:List Be)(W:World):Prop:=
 Boxed W w.heap.size 3 (I p)/\Boxed W (w.heap.size+1) 3 (I 0)/\(∀y∈pre,¬p<y.a+2 ^ y.o)/\Below w w W/\w.heap.size+3<=W.heap.size
def Fq(w:World)(p:Nat)(c:Code)(pre:List Be)(W:World):Prop:=
 c=.ret/\(∃l x,pre=l++ [x]/\(∀y∈l,¬p<y.a+2 ^ y.o)/\p<x.a+2 ^ x.o/\Boxed W (w.heap.size+1) 3 (nV x.a))/\Below w w W
theorem VS(w:World)(B p:Nat)(hB:w.heap.size<=B):OwnFrom B (Fo w p):=λs W W' row hs hg hr=>
 ⟨(Own.from (boxed_own _ _ (λ(_:Unit)=>_)) B) () W W' row hs.1 hg hr,(Own.from (boxed_own _ _ (λ(_:Unit)=>_)) B) () W W' row hs.2.1 hg hr,hs.2.2.1,ownFrom_below (XAB _) hB s W W' row hs.2.2.2.1 hg hr,XAL hs.2.2.2.2 hg.size⟩
theorem VT(w:World)(B p:Nat)(hB:w.heap.size<=B)(c:Code):OwnFrom B (Fq w p c):=λs W W' row hs hg hr=>by
 obtain⟨h1,⟨l,x,h2,h3,h4,h5⟩,h6⟩:=hs;exact⟨h1,⟨l,x,h2,h3,h4,(Own.from (boxed_own _ _ (λ(_:Unit)=>_)) B) () W W' row h5 hg hr⟩,ownFrom_below (XAB _) hB s W W' row h6 hg hr⟩
theorem Uh(w:World)(g n c p:Nat)(T:Tab)(hr:ee w g n T)(L:List (Nat × Nat))(hL:Seg T 0 n L)(hp:p<n)(hn:n<=1024)(hnc:n<=c):Z 51 #[.slice (g,0) n c,I p] w λe w'=>e=.returned (nV (eC L p))/\Below w w w':=by
 have hg:=aG.lt hr;refine(XAp (n:=9)).1 ?_;refine callsIn_of_wp_marks func51 R trivial ?_ rfl;simp only [ntmps51,List.size_toArray,List.length_cons,List.length_nil,Nat.reduceAdd,Nat.reduceSub,Array.replicate_succ,Array.replicate_zero,List.push_toArray,List.append_toArray,List.nil_append,List.cons_append]
 gi_wp2_with (refine⟨trivial,?_⟩;gi_at_call 68;(with_reducible refine(XAp.2 (BF (some ⟨g,0,none⟩) n c _)).mono ?_);rintro e w' ⟨rfl,rfl⟩)
 have b0:=((Boxed.new w 3 (I p)).alloc (.cells #[I 0] 3)).alloc (.cells #[.slice (g,0) n c] 93);have b1:=(Boxed.new (w.alloc (.cells #[I p] 3)) 3 (I 0)).alloc (.cells #[.slice (g,0) n c] 93);have b2:=Boxed.new ((w.alloc (.cells #[I p] 3)).alloc (.cells #[I 0] 3)) 93 (.slice (g,0) n c);simp only [XAT] at b1 b2;have hB0:Below w w (((w.alloc (.cells #[I p] 3)).alloc (.cells #[I 0] 3)).alloc (.cells #[.slice (g,0) n c] 93)):=(((XAC _ w).alloc (XAB _) _).alloc ql _).alloc qj _;have hsz:(((w.alloc (.cells #[I p] 3)).alloc (.cells #[I 0] 3)).alloc (.cells #[.slice (g,0) n c] 93)).heap.size=w.heap.size+3:=ql
 obtain⟨W0,hW0⟩:=Xq ((((w.alloc (.cells #[I p] 3)).alloc (.cells #[I 0] 3)).alloc (.cells #[.slice (g,0) n c] 93)));rw [hW0] at b0 b1 b2 hB0 hsz ⊢;clear hW0;refine wpIn_rangeFunc_ownH R qd (gf:=94) (lb:=#[.pointer (some ⟨w.heap.size+1+1,0,none⟩)]) R trivial (enters_of XDt qh R)
  (BG (w.heap.size+1+1) g n c T W0 hn hnc L hL b2.cell qd (hr.below hB0)) cV.trans (Dt qd qd) (XAC _ _) (λ_=>rfl)
  (Fo w p) (Fq w p) (VS w _ p qd) (VT w _ p qd) ⟨b0,b1,λy hy=>(by cases hy),hB0,qd⟩ (N3 w g n c p)
  (λx a' _ X af row hs hg hr=>qcw) ?assign ?body ?done ?stop
 case assign=>
  rintro l pre x W K ⟨i0,i1,i2,i3,i4⟩ hK;unfold su
  gi_wp2
  exact hK _ _ ((KeepsOthers.alloc _ _).from _) (cV.of_below ((XAC _ W).alloc (XAB _) _) qd qd) ⟨i0.alloc _,i1.alloc _,i2,i3.alloc i3.size _,qj⟩ ⟨W.heap.size,qd,ak.new _ _ _,R⟩
 case body=>
  rintro l pre x a' W hl ⟨r,hr⟩ ⟨i0,i1,i2,i3,i4⟩ ⟨Bx,hBx,bX,rfl⟩ hlt;have c0:=i0.cell;have c1:=i1.cell;have f1:=i1.frozen;have x1:W.cell? (Bx,1)=I x.o:=bX.cell 1;have hmx:prog.follows .mixedOrders=true:=qh
  gi_wp2
  obtain⟨M,hM⟩:=Xq (x.a+2 ^ x.o);have HE:=XAA (SS x);rw [hM] at HE
  gi_region_with_o (fail)
  all_goals
   rw [HE.out]
   gi_wp2
  all_goals first
   |exact⟨(KeepsOthers.drew _).from _,cV.drew _ _ W,i0,i1,λy hy=>(XAe.1 hy).elim (i2 y) (λe=>by rw [XA2.1 e,hM];omega),i3.drew,i4⟩
   |exact⟨((KeepsOthers.setCell _ _ _).trans (KeepsOthers.drew _)).from _,R,⟨pre,x,R,i2,by rw [hM];omega,i1.set (nV x.a)⟩,(i3.setCell (p:=⟨w.heap.size+1,0,none⟩) ql _).drew⟩
 case done=>
  rintro D ys W hD rfl ⟨i0,i1,i2,i3,i4⟩ hK;obtain⟨o,hm,h1,h2⟩:=hL.eC (XAJ _) hp;obtain⟨hd,h3,h4⟩:=hL.mem hm;obtain⟨e1,e2,-,-⟩:=Aa T hd.pM (show eC L p<1024 from qd);have h5:=i2 _ (XBR.2 ⟨_,hm,R⟩);rw [e1,e2] at h5;exact absurd h2 h5
 case stop=>
  rintro D c pre W hD hpre ⟨rfl,⟨l,x,rfl,h3,h4,h5⟩,h6⟩ hK;have hx:=IU L l 0 n hL hn hpre h3 h4
  gi_wp2
  refine⟨ql,.inl ⟨_,_,R,run_takeDeferred hK,?_⟩⟩;have hc5:=cell_kept h5.cell (grownBy_putObj' _ D (.deferred none)) (λr e=>by cases e;exact⟨_,hK,R⟩);refine⟨nV x.a,?_,by rw [hx],h6.trans (belowK_b (w:=w) (XAB _) W D _ _ qd hK R R)⟩;simp [results,f51,go_sem,hc5]
end
section
open Go.Shelf
attribute [local go_sem] Oper.semAt_some
def gA:List Be->Nat
 | []=>0
 |y::l=>(if y.k=0 then 2 ^ y.o else 0)+gA l
theorem Ul(l m:List Be):gA (l++m)=gA l+gA m:=by
 induction l with
 |nil=>simp [gA]
 |cons x l ih=>simp [gA,ih];omega
theorem Ib:∀l:List Be,gA l<=1024*l.length
 | []=>by simp [gA]
 |y::l=>by have h1:=Ib l;have h2:=(pQ y.h.1).2;simp only [gA,XA0];split<;>omega
theorem Ic{T:Tab} :∀{L:List (Nat × Nat)}{a b:Nat},Seg T a b L->b<=1024->gA (L.map (eF T))=dJ (jb T) L
 | [],_,_,_,_=>rfl
 |(a',o)::L,a,b,hs,hb=>by
  cases hs with
  |cons hd hs=>
   have hle:=hs.le;have:=two_pos o;obtain⟨e1,e2,e3,-⟩:=Aa T hd.pM (show a'<1024 from qd);rw [XBw];show(if _ then _ else _)+_=jb T (a',o)+_;rw [e2,e3,Ic hs hb];rfl
def MG(w:World)(g n c B0:Nat)(x:Be)(a':Act)(W:World):Prop:=
 ∃Bx,B0<Bx/\ak W Bx 98 #[I x.k,I x.o,I x.c]/\
  a'= { tmps:=#[.slice (g,0) n c,undef,.pointer (w.heap.size,0),undef,.pointer (Bx,0),.slice (g,0) n c,I 0,.bool false,.slice (g,0) n c,
   .func (.func 94) #[] #[(B0,0)],nV x.a,.agg #[I x.k,I x.o,I x.c],undef,undef,undef,undef,undef,undef,undef,undef,undef],defers:= [] }
def EF(w:World)(B0:Nat)(pre:List Be)(W:World):Prop:=Boxed W w.heap.size 3 (nV (gA pre))/\Below w w W/\B0<W.heap.size
theorem Uk(w:World)(B0 B:Nat)(hB:w.heap.size<=B):OwnFrom B (EF w B0):=λs W W' row hs hg hr=>
 ⟨(Own.from (boxed_own _ _ (λ(_:Unit)=>_)) B) () W W' row hs.1 hg hr,ownFrom_below (XAB _) hB s W W' row hs.2.1 hg hr,XAH hs.2.2 hg.size⟩
theorem O6(x:Be)(s:Nat)(hs:s<=2000000):IntKind.i64.wrap ((s:Int)+IntKind.i64.wrap ((2:Int) ^ min x.o 64))=((s+2 ^ x.o:Nat):Int):=by
 have h1:=x.h;have h2:=wZ x.o h1.1;have h3:=(pQ h1.1).2;rw [XC9 qd,XDu,XDu,h2];clear h2;obtain⟨N,hN⟩:=Xq (2 ^ x.o);rw [hN] at h3 ⊢;rw [XBZ _ qd];omega
theorem Uf(w:World)(g n c:Nat)(T:Tab)(hr:ee w g n T)(L:List (Nat × Nat))(hL:Seg T 0 n L)(h1:1<=n)(hn:n<=1024)(hnc:n<=c):Z 55 #[.slice (g,0) n c] w λe w'=>e=.returned (nV (dJ (jb T) L))/\Below w w w':=by
 have hg:=aG.lt hr;have hLn:L.length<=n:=by
  have:∀(L:List (Nat × Nat))(a b:Nat),Seg T a b L->L.length<=b-a:=by
   intro L;induction L with
   |nil=>intro a b _;simp
   |cons x L ih=>
    intro a b h;cases h with
    |cons hd hs=>have:=ih _ _ hs;rename_i a' o';have:=hs.le;have:=two_pos o';simp at*;omega
  have:=this L 0 n hL;omega
 refine(XAp (n:=9)).1 ?_;refine callsIn_of_wp_marks func55 R trivial ?_ rfl;simp only [ntmps55,List.size_toArray,List.length_cons,List.length_nil,Nat.reduceAdd,Nat.reduceSub,Array.replicate_succ,Array.replicate_zero,List.push_toArray,List.append_toArray,List.nil_append,List.cons_append];have hck:=Hz (w.alloc (.cells #[I 0] 3)) g n c T (hr.below ((XAC _ _).alloc (XAB _) _)) L hL h1 hn hnc
 gi_wp2_with (first
  |(refine⟨trivial,?_⟩;gi_at_call 50;(with_reducible refine(XAp.2 hck).mono ?_);rintro e w1 ⟨rfl,hb1⟩;have bx:=ak.below (ak.new w 3 #[I 0]) hb1)
  |(refine⟨trivial,?_⟩;gi_at_call 68;(with_reducible refine(XAp.2 (BF (some ⟨g,0,none⟩) n c _)).mono ?_);rintro e w' ⟨rfl,rfl⟩))
 have hbw:=df hb1;have b0:Boxed (w1.alloc (.cells #[.slice (g,0) n c] 93)) w.heap.size 3 (I 0):=ak.alloc bx _;have b2:=Boxed.new w1 93 (.slice (g,0) n c);have hsb:=bx.lt;have hB0:Below w w (w1.alloc (.cells #[.slice (g,0) n c] 93)):=hbw.alloc hbw.size _;have hr1:=hr.below hB0;have hsz:(w1.alloc (.cells #[.slice (g,0) n c] 93)).heap.size=w1.heap.size+1:=ql
 obtain⟨W0,hW0⟩:=Xq ((w1.alloc (.cells #[.slice (g,0) n c] 93)));rw [hW0] at b0 b2 hB0 hsz hr1 ⊢;clear hW0 hck;have hg1:g<w1.heap.size:=XAH hg hbw.size;refine wpIn_rangeFunc_ownH R qd (gf:=94) (lb:=#[.pointer (some ⟨w1.heap.size,0,none⟩)]) R trivial (enters_of XDt qh R)
  (BG w1.heap.size g n c T W0 hn hnc L hL b2.cell qd hr1) cV.trans (Dt qd qd) (XAC _ _) (λ_=>rfl)
  (EF w w1.heap.size) (λ_ _ _=>False) (Uk w _ _ hB0.size) (λ_ _ _ _ _ hs _ _=>hs) ⟨b0,hB0,qd⟩ (MG w g n c w1.heap.size)
  (λx a' _ X af row hs hg hr=>qcw) ?assign ?body ?done ?stop
 case assign=>
  rintro l pre x W K ⟨i0,i3,i4⟩ hK;unfold su
  gi_wp2
  exact hK _ _ ((KeepsOthers.alloc _ _).from _) (cV.of_below ((XAC _ W).alloc (XAB _) _) qd i4) ⟨i0.alloc _,i3.alloc i3.size _,qj⟩ ⟨W.heap.size,qd,ak.new _ _ _,R⟩
 case body=>
  rintro l pre x a' W hl ⟨r,hr⟩ ⟨i0,i3,i4⟩ ⟨Bx,hBx,bX,rfl⟩ hlt;have c0:=i0.cell;have f0:=i0.frozen;have x0:W.cell? (Bx,0)=I x.k:=bX.cell 0;have x1:W.cell? (Bx,1)=I x.o:=bX.cell 1;have hmx:prog.follows .mixedOrders=true:=qh
  have hle:=Ib pre;obtain⟨M,hM⟩:=Xq (gA pre+2 ^ x.o);have HE:=XAA (O6 x (gA pre) qd);rw [hM] at HE;have HS:=XAA (Ul pre [x]);by_cases hk:x.k=0
  .have hk':(x.k==0)=true:=by simp [hk]
   have HK:=XAA hk;clear hk
   gi_wp2
   gi_region_with_o (fail)
   all_goals
    rw [HE.out]
    gi_wp2
    exact⟨((KeepsOthers.setCell _ _ _).trans (KeepsOthers.drew _)).from _,(cV.set W ⟨w.heap.size,0,none⟩ _ (by show g≠w.heap.size;omega) (by show w1.heap.size≠w.heap.size;omega)).trans (cV.drew _ _ _),by rw [HS.out];simp only [gA];rw [XAE HK.out,XB5,hM];exact i0.set (nV M),(i3.setCell (p:=⟨w.heap.size,0,none⟩) (XAB _) _).drew,by simpa [World.setCell] using i4⟩
  .have hk':(x.k==0)=false:=by simp [hk]
   have HK:=XAA hk;clear hk
   gi_wp2
   exact⟨KeepsFrom.refl _ _,cV.refl _ _ _,by rw [HS.out];simp only [gA];rw [XAD HK.out];exact i0,i3,i4⟩
 case done=>
  rintro D ys W hD rfl ⟨i0,i3,i4⟩ hK;have c0:=i0.cell;have f0:=i0.frozen
  gi_wp2
  have hK':=(KeepsOthers.setCell W ⟨w.heap.size,0,none⟩ (nV (gA (L.map (eF T))))).same D _ hK rfl;refine⟨ql,.inl ⟨_,_,R,run_takeDeferred hK',?_⟩⟩;have hc5:=cell_kept (XEl W ⟨w.heap.size,0,none⟩ (nV (gA (L.map (eF T)))) (by rw [c0];rfl)) (grownBy_putObj' _ D (.deferred none)) (λr e=>qie);refine⟨nV (gA (L.map (eF T))),?_,by rw [Ic hL hn],(i3.setCell (p:=⟨w.heap.size,0,none⟩) (XAB _) _).trans (belowK_b (w:=w) (XAB _) _ D _ _ qd hK' R R)⟩;simp [results,f55,go_sem,hc5]
 case stop=>
  rintro D c pre W _ _ h _;exact h.elim
theorem Ug(w:World)(g n c p:Nat)(T:Tab)(hr:ee w g n T)(L:List (Nat × Nat))(hL:Seg T 0 n L)(hp:p<n)(hn:n<=1024)(hnc:n<=c):Z 31 #[.slice (g,0) n c,I p] w λe w'=>e=.returned (.tuple #[nV (eC L p),I 0])/\Below w w w':=by
 have hck:=Hz w g n c T hr L hL qd hn hnc;have hhd:=λw1 (hb:Below w w w1)=>Uh w1 g n c p T (hr.below hb) L hL hp hn hnc;have a1:¬(p:Int)<0:=qd
 have a2:¬(n:Int)<=(p:Int):=qd;have a3:¬n<=p:=qd;generalize eC L p=h at hhd ⊢;have H1:=XAA hck;have H2:=XAA hhd;clear hck hhd hr hL;go_enter func31,ntmps31;go_wp2_with (first|(go_at_call 50;refine H1.out.mono ?_;rintro e w1 ⟨rfl,hb1⟩)|(go_at_call 51;refine(H2.out _ hb1).mono ?_;rintro e w2 ⟨rfl,hb2⟩))
 go_ret2
 exact⟨R,bB hb1 hb2⟩
end
end Go.Proofs.YtedefgjfgdcfdaaGreatDoor
