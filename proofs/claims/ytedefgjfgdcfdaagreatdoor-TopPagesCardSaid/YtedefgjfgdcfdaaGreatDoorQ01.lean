/- Walks and laws for TopPages. -/
import Derived.Test.YtedefgjfgdcfdaaGreatDoorQ00
import Derived.Below
import Derived.Deep.Draws
import Derived.Deep.MidRow
import Derived.Laws.OwnMore
import Derived.Deep.AppendLies
import Derived.Deep.Quiet
import Derived.StillTail
import Derived.Test.YtedefgjfgdcfdaaGreatDoorRows
import Derived.ChangeSame
import Derived.Carry
import Derived.SizedLaws
import Derived.ProofKit
import Derived.Maps.AppendAt
import Derived.RegionTactic
import Derived.OwnWalk
import Derived.ChangeSlices
import Derived.Maps.RangeWalk
import Derived.DataShut
import Derived.Maps.Range
namespace Go.Proofs.YtedefgjfgdcfdaaGreatDoor
open Go.RowKit Go.Proofs.Tryz
set_option maxRecDepth 100000
set_option maxHeartbeats 4000000
theorem below_drewN{B:Nat}{a w:World}(h:Below B a w)(n:Nat):Below B a (w.drewN n):=⟨h.os,h.tape,h.output,h.size,h.block⟩
theorem df{w w1:World}{o:Obj}(h:Below (w.alloc o).heap.size (w.alloc o) w1):Below w w w1:=
 ((XAC _ _).alloc (XAB _) _).trans (h.mono ql)
theorem bB{w w1 w2:World}(h:Below w w w1)(h':Below w1 w1 w2):Below w w w2:=h.trans (h'.mono h.size)
theorem wQ{k:IntKind}{a b:Int}(h:a=b):Ending.returned (.int k a)=.returned (.int k b):=by rw [h]
theorem Lj{a b:Bool}(h:a=b):Ending.returned (.bool a)=.returned (.bool b):=by rw [h]
theorem yg{W w1:World}(hb:Below W W w1):(∀b o,b<W.heap.size->w1.cell? ⟨b,o,none⟩=W.cell? ⟨b,o,none⟩)/\(∀b o,b<W.heap.size->w1.frozen? ⟨b,o,none⟩=W.frozen? ⟨b,o,none⟩):=
 ⟨λb o h=>hb.cell (p:=⟨b,o,none⟩) h,λb o h=>hb.frozen (p:=⟨b,o,none⟩) h⟩
theorem bQ{W w1:World}(hb:Below W W w1)(B:Nat)(h:B<=W.heap.size):
  B<=w1.heap.size/\(∀b o,b<B->w1.cell? ⟨b,o,none⟩=W.cell? ⟨b,o,none⟩)/\(∀b o,b<B->w1.frozen? ⟨b,o,none⟩=W.frozen? ⟨b,o,none⟩):=
 ⟨XAL h hb.size,λb o hl=>hb.cell (p:=⟨b,o,none⟩) (XAH hl h),λb o hl=>hb.frozen (p:=⟨b,o,none⟩) (XAH hl h)⟩
theorem cell_below{w w':World}{p:Addr}{v:Value}(hb:Below w w w')(h:w.cell? p=some v):w'.cell? p=some v:=
 (hb.cell (XCQ w p h)).trans h
theorem eT{w:World}{o:Obj}{p:Addr}{v:Value}(h:w.cell? p=some v):(w.alloc o).cell? p=some v:=
 (XA9 w o p (XCQ w p h)).trans h
theorem tz{w:World}{p:Addr}{v:Value}(n:Nat)(h:w.cell? p=some v):(w.drewN n).cell? p=some v:=h
theorem fs{w:World}{p:Addr}{v:Value}(h:w.cell? p=some v):w.drew.cell? p=some v:=h
def ak(w:World)(g:Nat)(t:TypeId)(cs:Array Value):Prop:=w.heap[g]? =some (.cells cs t (0,0))
structure Only(g:Nat)(w w':World):Prop where
 os:w'.os=w.os
 tape:w'.tape=w.tape
 output:w'.output=w.output
 size:w'.heap.size=w.heap.size
 block:∀k,k≠g->w'.heap[k]? =w.heap[k]?
section
variable{w w':World}{g:Nat}{t:TypeId}{cs:Array Value}
theorem ak.lt(h:ak w g t cs):g<w.heap.size:=by
 rcases XAc g w.heap.size with hlt|hge
 .exact hlt
 .unfold ak at h;rw [XAz hge] at h;cases h
theorem ak.cell(h:ak w g t cs)(i:Nat):w.cell? ⟨g,i,none⟩=cs[i]? :=by
 unfold ak at h;simp [World.cell?,h]
theorem ak.frozen(h:ak w g t cs)(i:Nat):w.frozen? ⟨g,i,none⟩=false:=by
 unfold ak at h;simp [World.frozen?,h]
theorem ak.new(w:World)(t:TypeId)(cs:Array Value):ak (w.alloc (.cells cs t)) w.heap.size t cs:=heap_alloc_new w _
theorem ak.new2(w:World)(o:Obj)(t:TypeId)(cs:Array Value):ak ((w.alloc o).alloc (.cells cs t)) (w.heap.size+1) t cs:=by
 have k:=heap_alloc_new (w.alloc o) (.cells cs t (0,0));rw [XAT] at k;exact k
theorem ak.g_(w:World)(o o':Obj)(t:TypeId)(cs:Array Value):ak (((w.alloc o).alloc o').alloc (.cells cs t)) (w.heap.size+1+1) t cs:=by
 have k:=ak.new2 (w.alloc o) o' t cs;rw [XAT] at k;exact k
theorem ak.alloc(h:ak w g t cs)(o:Obj):ak (w.alloc o) g t cs:=(XAX w o g h.lt).trans h
theorem ak.below(h:ak w g t cs)(hb:Below w w w'):ak w' g t cs:=(hb.block g h.lt).trans h
theorem ak.drewN(h:ak w g t cs)(n:Nat):ak (w.drewN n) g t cs:=h
theorem ak.drew(h:ak w g t cs):ak w.drew g t cs:=h
theorem ak.only{g':Nat}(h:ak w g t cs)(hb:Only g' w w')(hne:g≠g'):ak w' g t cs:=(hb.block g hne).trans h
theorem ak.aJ(h:ak w g t cs)(i:Nat)(u:Value):ak (w.setCell ⟨g,i,none⟩ u) g t (cs.setIfInBounds i u):=by
 unfold ak at h ⊢;simp [World.setCell,Array.getElem?_modify,h]
theorem ak.far(h:ak w g t cs){p:Addr}(hp:g≠p.block)(u:Value):ak (w.setCell p u) g t cs:=(XAN w p u g hp).trans h
theorem Only.cell(h:Only g w w')(b o:Nat)(hb:b≠g):w'.cell? ⟨b,o,none⟩=w.cell? ⟨b,o,none⟩:=XAP (w:=w) (h.block b hb)
theorem Only.frozen(h:Only g w w')(b o:Nat)(hb:b≠g):w'.frozen? ⟨b,o,none⟩=w.frozen? ⟨b,o,none⟩:=XAh (w:=w) (h.block b hb)
theorem Only.below(h:Only g w w'){B:Nat}(hB:B<=g):Below B w w':=⟨h.os,h.tape,h.output,XAs h.size.symm,λk hk=>h.block k qd⟩
theorem aI{W:World}{B:Nat}(hb:Below B W w)(h:Only g w w')(hB:B<=g):Below B W w':=hb.trans (h.below hB)
theorem DZ(g:Nat)(t:TypeId):∀(vs:List Value)(o:Nat)(w:World)(cs:Array Value),ak w g t cs->o+vs.length<=cs.size->
  Only g w (w.setCells g o vs)/\∃cs':Array Value,ak (w.setCells g o vs) g t cs'/\cs'.size=cs.size/\∀j,cs'[j]? =if o<=j/\j<o+vs.length then vs[j-o]? else cs[j]?
 | [],o,w,cs,h,_=>⟨⟨R,R,R,R,λ_ _=>rfl⟩,cs,h,R,λj=>by rw [XAD (by simp only [XBE];omega)]⟩
 |v::vs,o,w,cs,h,hl=>by
  simp only [XA0] at hl;have h1:=h.aJ o v;obtain⟨ho,cs',h2,h3,h4⟩:=DZ g t vs (o+1) (w.setCell ⟨g,o,none⟩ v) (cs.setIfInBounds o v) h1 (by rw [XEE];omega);refine⟨⟨ho.os,ho.tape,ho.output,?_,λk hk=>?_⟩,cs',h2,?_,λj=>?_⟩
  .rw [show(w.setCells g o (v::vs))=(w.setCell ⟨g,o,none⟩ v).setCells g (o+1) vs from R,ho.size];simp [World.setCell]
  .rw [show(w.setCells g o (v::vs))=(w.setCell ⟨g,o,none⟩ v).setCells g (o+1) vs from R,ho.block k hk];exact XAN w ⟨g,o,none⟩ v k hk
  .rw [h3,XEE]
  .rw [h4,XDN,XA0];by_cases hj:j=o
   .subst hj;rw [XAD qd,XAE R,XAE qd,XAE qd];simp
   .by_cases hin:o<=j/\j<o+(vs.length+1)
    .rw [XAE qd,XAE hin,show j-o=(j-(o+1))+1 from qd,XEF]
    .rw [XAD qd,XAD qd,XAD hin]
theorem aU{P:Program}{ops:Array Oper}{rest:List Oper}{op:Oper}{a:Act}{Q:Exit->Act->World->Prop}(hgd:op.guard=none)(ty:TypeId)(x y:Operand)(ho:op.op=.store ty x y)
 (cells:Array Value)(hx:a.eval x=.pointer (some ⟨g,0,none⟩))(hy:a.eval y=.agg cells)(hb:ak w g t cs)(hsz:cs.size=cells.size)
 (hi:(P.info? ty).map (·.size)=some cells.size)(h1:cells.all (·.oneCell')=true)
 (h:∀w',Only g w w'->ak w' g t cells->wpList P ops Q rest (a.put op.dst undef) w'):wpList P ops Q (op::rest) a w:=by
 have ht:w.there g 0 cells.size:=λj hj=>by rw [XAV,hb.cell,Array.getElem?_eq_getElem qd];exact⟨R,hb.frozen _⟩
 refine wpList_store_mid hgd ty x y ho g 0 cells hx hy ht hi h1 ?_;obtain⟨k1,cs',k2,k3,k4⟩:=DZ g t cells.toList 0 w cs hb qj;have e:cs'=cells:=by
  apply XDO;intro j;rw [k4];by_cases hj:j<cells.size
  .rw [XAE ⟨XAJ _,by simpa using hj⟩];simp
  .rw [XAD qj,XAz qd,XAz qd]
 rw [e] at k2;exact h _ k1 k2
end
def Row(w:World)(A:Option Addr)(xs:List Value):Prop:=
 0<xs.length->∃b off,A=some ⟨b,off,none⟩/\b<w.heap.size/\∀j u,xs[j]? =some u->w.cell? (b,off+j)=some u
theorem addr_add(b off j:Nat):(⟨b,off,none⟩:Addr).add j=⟨b,off+j,none⟩:=by
 unfold Addr.add;by_cases hj:j=0
 .subst hj;rfl
 .rw [XAD hj]
theorem aa1{w:World}{a:Addr}{v:Value}(h:w.cell? a=some v):a.spot=none:=by
 unfold World.cell? at h;split at h
 .split at h
  .cases h
  .rename_i hs;simpa using hs
 .cases h
section
variable{w w':World}{A:Option Addr}{xs:List Value}
theorem Row.nil(w:World)(A:Option Addr):Row w A []:=λh=>absurd h (XDP 0)
theorem Row.keep(h:Row w A xs)(hz:w.heap.size<=w'.heap.size)(hk:∀b o,b<w.heap.size->w'.cell? ⟨b,o,none⟩=w.cell? ⟨b,o,none⟩):Row w' A xs:=λhp=>by
 obtain⟨b,off,e,hb,hc⟩:=h hp;exact⟨b,off,e,qd,λj u hu=>(hk _ _ hb).trans (hc j u hu)⟩
theorem Row.below(h:Row w A xs)(hb:Below w w w'):Row w' A xs:=h.keep hb.size λ_ _ hl=>hb.cell hl
theorem Row.alloc(h:Row w A xs)(o:Obj):Row (w.alloc o) A xs:=h.keep ql λb off hl=>XA9 w o ⟨b,off,none⟩ hl
theorem Row.drewN(h:Row w A xs)(n:Nat):Row (w.drewN n) A xs:=h
theorem Row.drew(h:Row w A xs):Row w.drew A xs:=h
def u9(w:World)(B:Nat)(A:Option Addr)(xs:List Value):Prop:=
 0<xs.length->∃b off,A=some ⟨b,off,none⟩/\b<B/\∀j u,xs[j]? =some u->w.cell? (b,off+j)=some u
theorem u9.below{B:Nat}(h:u9 w B A xs)(hb:Below B w w'):u9 w' B A xs:=λhp=>by
 obtain⟨b,off,e,hl,hc⟩:=h hp;exact⟨b,off,e,hl,λj u hu=>(hb.cell (p:=⟨b,off+j,none⟩) hl).trans (hc j u hu)⟩
theorem u9.row{B:Nat}(h:u9 w B A xs)(hB:B<=w.heap.size):Row w A xs:=λhp=>by
 obtain⟨b,off,e,hl,hc⟩:=h hp;exact⟨b,off,e,qd,hc⟩
theorem Row.gj{base:Nat}{e:TypeId}{n c:Nat}(h:w.ownsRow base e 1 (.slice A n c) n xs):Row w A xs:=λhp=>by
 have hl:=h.1;obtain⟨g,cap,hv,_,hlt⟩:=h.form qd;have hA:A=some ⟨g,0,none⟩:=by injection hv
 subst hA;refine⟨g,0,R,hlt,λj u hu=>?_⟩;have:=h.cells (g:=g) R j u hu
 rwa [addr_add] at this
theorem Row.slice{base:Nat}{e:TypeId}{v:Value}{n:Nat}(h:w.ownsRow base e 1 v n xs):∃A c,v=.slice A n c/\Row w A xs:=by
 have h':=h;obtain⟨_,⟨rfl,rfl⟩|⟨g,cap,cur,rfl,_⟩⟩:=h
 .exact⟨none,0,R,Row.gj h'⟩
 .exact⟨_,cap,R,Row.gj h'⟩
theorem Row.at_(h:Row w A xs){k:Nat}(hk:k<xs.length):∃b off,A=some ⟨b,off,none⟩/\b<w.heap.size/\w.cell? (b,off+k)=some xs[k]:=by
 obtain⟨b,off,e,hb,hc⟩:=h qd;exact⟨b,off,e,hb,hc k _ (XAO hk)⟩
end
theorem own_below{w w':World}{base:Nat}{e:TypeId}{size:Nat}{v:Value}{n:Nat}{xs:List Value}(h:w.ownsRow base e size v n xs)(hb:Below w w w'):w'.ownsRow base e size v n xs:=by
 obtain⟨h1,h2⟩:=h;refine⟨h1,?_⟩;rcases h2 with h2|⟨g,cap,cur,h3,h4,h5,h6⟩
 .exact Or.inl h2
 .have hlt:g<w.heap.size:=by
   rcases XAc g w.heap.size with hlt|hge
   .exact hlt
   .rw [XAz hge] at h5;cases h5
  exact Or.inr ⟨g,cap,cur,h3,h4,(hb.block g hlt).trans h5,h6⟩
structure Ext(W:World) where
 w:World
 below:Below W W w
theorem Ext.there(W:World):Nonempty (Ext W):=⟨⟨W,XAC _ _⟩⟩
theorem Ext.cell{W:World}(s:Ext W)(b o:Nat)(h:b<W.heap.size):s.w.cell? ⟨b,o,none⟩=W.cell? ⟨b,o,none⟩:=s.below.cell (p:=⟨b,o,none⟩) h
theorem Ext.frozen{W:World}(s:Ext W)(b o:Nat)(h:b<W.heap.size):s.w.frozen? ⟨b,o,none⟩=W.frozen? ⟨b,o,none⟩:=s.below.frozen (p:=⟨b,o,none⟩) h
theorem Ext.heap{W:World}(s:Ext W)(b:Nat)(h:b<W.heap.size):s.w.heap[b]? =W.heap[b]? :=s.below.block b h
theorem S1{W w1:World}(h:∃s:Ext W,w1=s.w):Below W W w1:=by
 obtain⟨s,rfl⟩:=h;exact s.below
abbrev Au(B:Nat)(w:World)(Q:World->Prop):Prop:=∀w1,Below w w w1->B<=w1.heap.size->(∀b o,b<B->w1.cell? ⟨b,o,none⟩=w.cell? ⟨b,o,none⟩)->(∀b o,b<B->w1.frozen? ⟨b,o,none⟩=w.frozen? ⟨b,o,none⟩)->Q w1
theorem G8{W w1:World}{B:Nat}{Q:World->Prop}(hle:B<=W.heap.size)(h:∃s:Ext W,w1=s.w)(hq:Au B W Q):Q w1:=
 let hb:=S1 h
 hq _ hb (bQ hb B hle).1 (bQ hb B hle).2.1 (bQ hb B hle).2.2
theorem ba{P:Program}{id:Nat}{Q:Exit->Act->World->Prop}{a:Act}{w:World}{l:List Oper}(B:Nat)
 (h:(∀(s:Ext w)(b o:Nat),b<B->s.w.cell? ⟨b,o,none⟩=w.cell? ⟨b,o,none⟩)->(∀(s:Ext w)(b o:Nat),b<B->s.w.frozen? ⟨b,o,none⟩=w.frozen? ⟨b,o,none⟩)->
   (∀(s:Ext w)(b:Nat),b<B->s.w.heap[b]? =w.heap[b]?)->Nonempty (Ext w)->
   wpQuiet P l.toArray (λw'=>∃s:Ext w,w'=s.w) (λa'=>∀w1,Below w w w1->B<=w1.heap.size->(∀b o,b<B->w1.cell? ⟨b,o,none⟩=w.cell? ⟨b,o,none⟩)->(∀b o,b<B->w1.frozen? ⟨b,o,none⟩=w.frozen? ⟨b,o,none⟩)->Q .normal a' w1) l a)
 (hm:P.follows .mixedOrders=true:=by kernel_rfl)(hB:Region.lexB .any l.toArray=true:=by kernel_rfl)(hle:B<=w.heap.size:=by first|exact XAB _|go_size):(Code.region id l.toArray true).wp P Q a w:=by
 have h1:=h (λs b o hl=>s.cell b o (XAH hl hle)) (λs b o hl=>s.frozen b o (XAH hl hle)) (λs b hl=>s.heap b (XAH hl hle)) (Ext.there w);simp only [Region.lexB,XAt] at hB;refine wp_region_any hm (wpAny_of_quiet (C:=λw'=>∃s:Ext w,w'=s.w) (Q:=λa'=>Au B w (Q .normal a')) (λ_ w' hw' h=>G8 hle hw' h) _ _ _ _ ⟨⟨w.drew,(XAC _ _).drew⟩,R⟩ ?_);simpa using wpAnyQ_lex (C:=λw'=>∃s:Ext w,w'=s.w) (md:=.any) hB.1 l 0 (Array.replicate l.toArray.size false) a ql (by simpa using hB.2) h1
theorem dy{P:Program}{f:FuncId}{args:Array Value}{W:World}{s:Ext W}{v:Value}
 (h:Calls P f args s.w λe w'=>e=.returned v/\Below s.w.heap.size s.w w'):Calls P f args s.w λe w''=>e=.returned v/\∃s':Ext W,w''=s'.w:=
 h.mono λ_ w' ⟨he,hb⟩=>⟨he,⟨w',s.below.trans (hb.mono s.below.size)⟩,R⟩
section
variable{P:Program}{md:Region.Mode}{ops hd:Array Oper}{Q:Exit->Act->World->Prop}
theorem Mc:∀(f:Nat)(listed:Array Bool)(a:Act)(w:World),wpAny P md ops Q f listed a w->wpAny P md ops Q (f+1) listed a w
 |0,listed,a,w,h=>⟨λ_=>h.2,λi hi=>by rw [h.1] at hi;cases hi⟩
 |f+1,listed,a,w,h=>⟨h.1,λi hi=>XCs (λa' w' h'=>Mc f _ a' w' h') (h.2 i hi)⟩
theorem Mf{f:Nat}{listed:Array Bool}{a:Act}{w:World}(h:wpAny P md ops Q f listed a w):∀g,wpAny P md ops Q (g+f) listed a w
 |0=>by rw [XAV];exact h
 |g+1=>by rw [show g+1+f=(g+f)+1 from qd];exact Mc _ _ _ _ (Mf h g)
def headB(md:Region.Mode)(ops hd:Array Oper):Bool:=
 decide (hd.size<=ops.size) && ((List.range hd.size).all λi=>match ops[i]? with
  |some o=>(o.after.all λe=> !Region.binds md e||decide (e.on<i)) && (match o.guard with|some (j,_)=>decide (j<hd.size)|none=>true)
  |none=>false) &&
 (decide (hd.size<ops.size) && (Region.sinkB md ops hd.size && Region.chainB md ops hd.size))
theorem Cw{lh r:Array Bool}{i:Nat}{d:Bool}(h:i<lh.size):(lh++r).getD i d=lh.getD i d:=by
 simp [Array.getD,h,Array.getElem_append_left,Nat.lt_add_right]
theorem aal{lh r:Array Bool}{i:Nat}{v:Bool}(h:i<lh.size):(lh++r).setIfInBounds i v=lh.setIfInBounds i v++r:=by
 apply XDO;intro j;rw [XDN];simp only [Array.getElem?_append,XEE,XDN,Array.size_append];by_cases hij:i=j
 .subst hij;simp [h,Nat.lt_add_right]
 .simp [hij]
theorem YQ{m:Nat}(hB:headB md ops hd=true)(hat:∀i,i<hd.size->hd[i]? =ops[i]?):
  ∀(f:Nat)(lh:Array Bool)(a:Act)(w:World),lh.size=hd.size->HeadInv md ops hd.size (lh++Array.replicate (ops.size-hd.size) false)->
   wpAny P md hd (Exit.then (wpAny P md ops Q m (Array.replicate hd.size true++Array.replicate (ops.size-hd.size) false)) Q) f lh a w->
   wpAny P md ops Q (f+m) (lh++Array.replicate (ops.size-hd.size) false) a w:=by
 simp only [headB,XAt,XB7,XBu,XAu] at hB;obtain⟨⟨hle,hback⟩,hnt,Wv,hchain⟩:=hB;have Jn:∀(lh:Array Bool)(i:Nat),lh.size=hd.size->i<hd.size->(i∈Region.ready md ops (lh++Array.replicate (ops.size-hd.size) false)↔i∈Region.ready md hd lh):=by
  intro lh i hs hi;have hb:=hback i hi;simp only [Region.ready,XEG,XAu];rw [Cw qd,hat i hi];have Wa:i<ops.size:=qd
  simp only [hi,Wa,true_and];cases ho:ops[i]? with
  |none=>rfl
  |some o=>
   rw [ho] at hb;simp only [XAt,XB8] at hb;have:(o.after.all λe=> !Region.binds md e||(lh++Array.replicate (ops.size-hd.size) false).getD e.on false)=(o.after.all λe=> !Region.binds md e||lh.getD e.on false):=by
    rw [XBM,XB8,XB8];refine forall_congr' λe=>forall_congr' λhe=>?_;have h1:=hb.1 e he;cases hbe:Region.binds md e with
    |false=>simp
    |true=>
     simp only [hbe,XCS,Bool.false_or,XB7] at h1;rw [Cw qd]
   simp only [XEH,XB9,this]
 have hall:∀(lh:Array Bool),lh.size=hd.size->Region.ready md hd lh= []->lh=Array.replicate hd.size true:=by
  intro lh hs hr;have key:∀i,i<hd.size->lh.getD i true=true:=by
   intro i;induction i using Nat.strongRecOn with
   |_ i ih=>
    intro hi;cases hl:lh.getD i true with
    |true=>rfl
    |false=>
     have:i∈Region.ready md hd lh:=by
      simp only [Region.ready,XEG,XAu];refine⟨hi,?_⟩;rw [hl,hat i hi];have hb:=hback i hi;cases ho:ops[i]? with
      |none=>rw [ho] at hb;simp at hb
      |some o=>
       rw [ho] at hb;simp only [XAt,XB8] at hb;simp only [Bool.not_false,XEH,XB9,XCt,XB8];intro e he;have h1:=hb.1 e he;cases hbe:Region.binds md e with
       |false=>simp
       |true=>
        simp only [hbe,XCS,Bool.false_or,XB7] at h1 ⊢;have h2:=ih e.on h1 qd;have hlt:e.on<lh.size:=qd
        simpa [Array.getD,hlt] using h2
     rw [hr] at this;cases this
  apply Array.ext
  .simp [hs]
  .intro i h1 h2;have:=key i qd;simpa [Array.getD,h1] using this
 have Wx:∀(o:Oper)(a:Act)(w:World)(K:Act->World->Prop)(T:Act->World->Prop),o.wp P a w K (Exit.then T Q)->o.wp P a w K Q:=by
  intro o a w K T h;unfold Oper.wp at*;generalize (execOp a.eval o).run P w=r at*;cases r with
  |ok n w'=>cases n<;>exact h
  |halt x w'=>cases x<;>exact h
 have hop:∀(i:Nat)(a:Act)(w:World)(K:Act->World->Prop)(T:Act->World->Prop),i<hd.size->wpOp P hd (Exit.then T Q) i K a w->wpOp P ops Q i K a w:=by
  intro i a w K T hi h;unfold wpOp at*;rw [hat i hi] at h;have hb:=hback i hi;cases ho:ops[i]? with
  |none=>rw [ho] at h;exact h
  |some o=>
   rw [ho] at h hb;simp only [XAt] at hb;have hy:Region.wanted o (yielded hd a.tmps)=Region.wanted o (yielded ops a.tmps):=by
    unfold Region.wanted;cases hg:o.guard with
    |none=>rfl
    |some g=>
     obtain⟨j,aB⟩:=g;have hj:=hb.2;rw [hg] at hj;simp only [XB7] at hj;show(yielded hd a.tmps j==some aB)=(yielded ops a.tmps j==some aB);unfold yielded;rw [hat j hj]
   simp only [hy] at h;simp only;split
   .rename_i hw;rw [XAE hw] at h;rcases h with h|h
    .exact .inl (Wx o a w K T h)
    .exact .inr h
   .rename_i hw;rw [XAD hw] at h;exact h
 have hnot:∀(lh:Array Bool)(i:Nat),lh.size=hd.size->HeadInv md ops hd.size (lh++Array.replicate (ops.size-hd.size) false)->i<hd.size->lh.getD i true=false->∀t,hd.size<=t->t∉Region.ready md ops (lh++Array.replicate (ops.size-hd.size) false):=
  λlh i hs inv hi hl t ht=>tail_waits Wv hchain hnt inv _ i R hi (by rw [Cw qd];exact hl) t ht
 intro f;induction f with
 |zero=>
  intro lh a w hs _ h;rw [hall lh hs h.1,XAV];exact h.2
 |succ f ih=>
  intro lh a w hs inv h;obtain⟨h0,h1⟩:=h;by_cases hr:Region.ready md hd lh= []
  .have:=h0 hr;rw [hall lh hs hr];exact Mf this _
  .obtain⟨i,rest,hi⟩:=XEr hr;have hmem:i∈Region.ready md hd lh:=by rw [hi];exact XA1
   obtain⟨hil,oi,hoi,_⟩:=XB_.1 hmem;have hin:i<hd.size:=(XDQ.1 hoi).1;have hfuel:f+1+m=(f+m)+1:=qd
   rw [hfuel];refine⟨λhz=>?_,λj hj=>?_⟩
   .have:=(Jn lh i hs hin).2 hmem;rw [hz] at this;cases this
   .have hjn:j<hd.size:=by
     rcases XAc j hd.size with h'|h'
     .exact h'
     .exact absurd hj (hnot lh i hs inv hin hil j h')
    have hjr:=(Jn lh j hs hjn).1 hj;refine hop j a w _ _ hjn (XCs (λa' w' h'=>?_) (h1 j hjr));have JH:=inv.set hj hjn;rw [aal qd] at JH ⊢;exact ih _ a' w' (by simp [hs]) JH h'
end
theorem bN{P:Program}{id:Nat}{Q:Exit->Act->World->Prop}{a:Act}{w:World}{l:List Oper}(n B:Nat)
 (h:(∀(s:Ext w)(b o:Nat),b<B->s.w.cell? ⟨b,o,none⟩=w.cell? ⟨b,o,none⟩)->(∀(s:Ext w)(b o:Nat),b<B->s.w.frozen? ⟨b,o,none⟩=w.frozen? ⟨b,o,none⟩)->
   (∀(s:Ext w)(b:Nat),b<B->s.w.heap[b]? =w.heap[b]?)->Nonempty (Ext w)->
   wpQuiet P (l.take n).toArray (λw'=>∃s:Ext w,w'=s.w) (λa'=>∀w1,Below w w w1->B<=w1.heap.size->(∀b o,b<B->w1.cell? ⟨b,o,none⟩=w.cell? ⟨b,o,none⟩)->(∀b o,b<B->w1.frozen? ⟨b,o,none⟩=w.frozen? ⟨b,o,none⟩)->wpList P l.toArray Q (l.drop n) a' w1) (l.take n) a)
 (hm:P.follows .mixedOrders=true:=by kernel_rfl)(hn:(l.take n).length=n:=by kernel_rfl)(hB:Region.lexB .any (l.take n).toArray=true:=by kernel_rfl)(hH:headB .any l.toArray (l.take n).toArray=true:=by kernel_rfl)
 (hS:Region.seqB .any l.toArray (l.drop n).length n (Array.replicate n true++Array.replicate (l.length-n) false)=true:=by kernel_rfl)(hle:B<=w.heap.size:=by first|exact XAB _|go_size):(Code.region id l.toArray true).wp P Q a w:=by
 have hq:=h (λs b o hl=>s.cell b o (XAH hl hle)) (λs b o hl=>s.frozen b o (XAH hl hle)) (λs b hl=>s.heap b (XAH hl hle)) (Ext.there w);clear h;have hnl:n<=l.length:=by rw [XBV] at hn;omega
 have hdl:(l.drop n).length=l.length-n:=XB6;refine wp_region_any hm ?_;have hC:(λw'=>∃s:Ext w,w'=s.w) { w with drawn:=w.drawn+1 } :=⟨⟨w.drew,(XAC _ _).drew⟩,R⟩;have hsz:(l.take n).toArray.size=n:=qhb
 have hat:∀i,i<(l.take n).toArray.size->(l.take n).toArray[i]? =l.toArray[i]? :=by intro i hi;rw [hsz] at hi;simp [hi]
 simp only [Region.lexB,XAt] at hB;have h1:=wpAnyQ_lex (C:=λw'=>∃s:Ext w,w'=s.w) (md:=.any) hB.1 (l.take n) 0 (Array.replicate (l.take n).toArray.size false) a ql (by simpa using hB.2) hq;have h2:=wpAny_of_quiet (P:=P) (md:=.any) (Q:=λa'=>Au B w (wpList P l.toArray Q (l.drop n) a'))
  (Q':=Exit.then (wpAny P .any l.toArray Q (l.drop n).length (Array.replicate (l.take n).toArray.size true++Array.replicate (l.toArray.size-(l.take n).toArray.size) false)) Q) (λa' w' hw' ha'=>by
   have h3:=G8 hle hw' ha'
   show wpAny P .any l.toArray Q _ _ a' w'
   rw [hsz]
   exact wpAny_of_seq (l.drop n) n _ a' w' (λj=>ql) (by simpa using hS) h3) _ _ _ _ hC h1
 have inv:HeadInv .any l.toArray (l.take n).toArray.size (Array.replicate (l.take n).toArray.size false++Array.replicate (l.toArray.size-(l.take n).toArray.size) false):=by
  rw [XEs];refine⟨by rw [hsz];simp;omega,λj oj _ hl=>?_,λt _ ht=>?_⟩
  .rw [getD_replicate_false] at hl;cases hl
  .refine getD_in (by rw [hsz];simp at ht ⊢;omega) (getD_replicate_false _ _)
 have h4:=YQ hH hat _ _ a _ ql inv h2;have e1:(l.take n).length+(l.drop n).length=l.toArray.size:=by rw [hn,hdl];simp;omega
 have e2:(Array.replicate (l.take n).toArray.size false++Array.replicate (l.toArray.size-(l.take n).toArray.size) false)=Array.replicate l.toArray.size false:=by
  rw [hsz,XEs]
  congr 1
  simp;omega
 rw [e1,e2] at h4;exact h4
abbrev fw(l:List Int):List Value:=l.map (Value.int .i64)
theorem yU{l:List Int}{k:Nat}(h:k<l.length):(fw l)[k]? =I l[k]:=by simp [h]
theorem JF(l:List Int):(fw l).length=l.length:=XAY _
theorem aah{i n:Int}(hn:1<=n)(h:i.tmod n<0):i.tmod n+n=i % n:=by
 have hi:i<0:=by
  rcases XCv i 0 with h'|h'
  .exact h'
  .have:=Int.tmod_nonneg n h';omega
 have e:i.tmod n= -((-i) % n):=by rw [<-XCT (show 0<= -i from qd),Int.neg_tmod,Int.neg_neg]
 have h3:=XBH (-i) (show n≠0 from qd);have h4:=XBW (-i) (show 0<n from qd);have h2:=Int.mul_ediv_add_emod (-i) n;rw [e] at h ⊢;generalize (-i) % n=r at*;generalize (-i) / n=q at*;have h1:i=(n-r)+n*(-(q+1)):=by rw [Int.mul_neg,Int.mul_add,Int.mul_one];omega
 rw [h1,Int.add_mul_emod_self_left,Int.emod_eq_of_lt qd qd];omega
theorem aai{i n:Int}(hn:1<=n)(h:0<=i.tmod n):i.tmod n=i % n:=by
 rcases XCv i 0 with hi|hi
 .have e:i.tmod n= -((-i) % n):=by
   rw [<-XCT (show 0<= -i from qd),Int.neg_tmod,Int.neg_neg]
  have h3:=XBH (-i) (show n≠0 from qd);have h4:(-i) % n=0:=qd
  rw [e,h4];have h5:n ∣ -i:=Int.dvd_of_emod_eq_zero h4;have h6:n ∣ i:=(Int.dvd_neg).1 h5;rw [Int.emod_eq_zero_of_dvd h6];rfl
 .exact XCT hi
theorem LP{i n:Int}(hn:1<=n): -n<i.tmod n/\i.tmod n<n:=by
 rcases XCv i 0 with hi|hi
 .have e:i.tmod n= -((-i) % n):=by
   rw [<-XCT (show 0<= -i from qd),Int.neg_tmod,Int.neg_neg]
  have h3:=XBH (-i) (show n≠0 from qd);have h4:=XBW (-i) (show 0<n from qd);omega
 .rw [XCT hi];have h3:=XBH i (show n≠0 from qd);have h4:=XBW i (show 0<n from qd);omega
theorem Qt(i n:Int)(hn:1<=n)(hn':n<=4611686018427387904)(w:World):Z 10 #[I i,I n] w λe w'=>
  e=.returned (I (i % n))/\w'=w:=by
 have hb:=LP (i:=i) hn;by_cases h:i.tmod n<0
 .have hf:=XAA (aah hn h);have hl: -n<i.tmod n:=hb.1;go_enter func10,ntmps10;go_wp2;go_ret;exact⟨wQ hf.out,R⟩
 .have hf:=XAA (aai (i:=i) hn qd);go_enter func10,ntmps10;go_wp2;go_ret;exact⟨wQ hf.out,R⟩
section
open Go.ChangeShapes Go.WideShapes Go.RowKit
section
variable{H:Type}{enc:TypeId × Value->H}{P:Program}
theorem Kc(hl:laidOutB P=true){W W':World}(hb:Below W W W'){sp:Nat->Bool} :∀{ts:List TypeId}{vs:List Value}{ds:List (DataW H)}{p:List MemPlace},
  (∀t∈ts,P.readableRec t=true/\t<P.types.size)->DataW.TrodAll enc P W 0 (λ_=>true) true ts vs ds p->(∀x∈p,x.block<W.heap.size)->(∀x∈p,sp x.block=true)->
  DataW.TrodAll enc P W' 0 sp true ts vs ds p
 | [],_,_,_,_,h,_,_=>by obtain⟨rfl,rfl,rfl⟩:=trodAll_nil h;exact trodAll_mk0
 |t::ts,_,_,_,hr,h,hlt,hsp=>by
  obtain⟨v,vs',d,ds',p,q,rfl,rfl,rfl,h1,h2⟩:=trodAll_cons h;have ht:=hr t (XA1);exact⟨p,q,WideElems.Trod_stays hl ht.1 ht.2 h1 (λx hx=>hb.same (hlt x (XAe.2 (.inl hx)))) (λx hx=>hsp x (XAe.2 (.inl hx))),
   Kc hl hb (λt' h'=>hr t' (XBC _ h')) h2 (λx hx=>hlt x (XAe.2 (.inr hx))) (λx hx=>hsp x (XAe.2 (.inr hx))),R⟩
theorem Z0{f:Func}{s:ChangeSpec}{apart fresh handsOn again:Bool}{W W':World}{args:Array Value}{v:Value}{ds gs:List (DataW H)}{before pa pv:List MemPlace}
 (hW:DataW.Whole enc P f.params.toList s.vars apart W args.toList ds gs before)
 (hres:∀(b:Nat)(sp:Nat->Bool)(hd:Bool),DataW.TrodAll enc P W' b sp hd f.resultTypes.toList (v.resultList f.resultTypes.size) (s.fn H (ds++gs)).results [])
 (hargs:∀sp:Nat->Bool,(∀p∈before,sp p.block=true)->DataW.TrodAll enc P W' 0 sp true f.params.toList args.toList (s.fn H (ds++gs)).args pa)
 (hvars:∀sp:Nat->Bool,(∀p∈before,sp p.block=true)->DataW.TrodVars enc P W' sp s.vars (s.fn H (ds++gs)).vars pv)
 (hps:before=pa++pv)(hb:Below W W W')
 (hok:∀(j:Nat)(t:TypeId)(r:Value),f.resultTypes[j]? =some t->(v.resultList f.resultTypes.size)[j]? =some r->Value.okWide P W' .any 0 t r):
  s.post enc P f apart fresh handsOn again W args v W':=by
 have hlt:∀p∈before,p.block<W.heap.size:=λp hp=>hW.lt p hp;have hold:∀p∈before,(λb=>decide (b<W.heap.size)) p.block=true:=λp hp=>by simpa using hlt p hp
 refine⟨ds,gs,before, [],pa,pv,hW,hres _ _ _,hargs _ hold,hvars _ hold,World.keptBut_mono (λp hp=>⟨hp,?_⟩) (hb.frame (·∈before)),λ_=>?_⟩
 .rw [hps,XAe] at hp;exact Or.inr hp
 .obtain⟨_,_,_,_,_,hz,hn⟩:=hW;refine⟨hok,_,_,([]++pa)++pv,⟨[]++pa,pv,trodAll_append (hargs _ (λ_ _=>rfl)) (hres _ _ _),hvars _ (λ_ _=>rfl),R,?_,?_⟩,?_⟩
  .intro b off hp;have hin:MemPlace.cell b off∈before:=by rw [hps];simpa using hp
   rw [hb.frozen (hlt _ hin)];exact hz b off hin
  .intro ha;have:=hn ha;rw [hps] at this;simpa using this
  .intro p hp _;rw [hps];simpa using hp
theorem YJ{f:Func}{s:ChangeSpec}{tb:TypeId}{W W':World}{args:Array Value}{ds gs:List (DataW H)}{before:List MemPlace}
 (hl:laidOutB P=true)(hv:s.vars= [])(hrt:f.resultTypes=#[tb])(htb:P.underlying tb=some .bool)
 (hpar:∀t∈f.params.toList,P.readableRec t=true/\t<P.types.size)
 (hspec:s.fn H ds=⟨[.lit (.bool true)],ds, []⟩)
 (hW:DataW.Whole enc P f.params.toList s.vars false W args.toList ds gs before)(hb:Below W W W'):
  s.post enc P f false true false false W args (.bool true) W':=by
 have hW0:=hW;have hlt:=hW.lt;obtain⟨p,q,hA,hV,hps,_,_⟩:=hW;rw [hv] at hV;obtain⟨rfl,rfl⟩:=trodVars_none hV;have e:s.fn H (ds++ [])=⟨[.lit (.bool true)],ds, []⟩:=by rw [XDT];exact hspec
 rw [XDT] at hps;subst hps;refine Z0 (pa:=before) (pv:= []) hW0 ?_ ?_ ?_ ql hb ?_
 .intro b sp hd;rw [e,hrt];exact trodAll_mk1 (shut_bool htb true)
 .intro sp hsp;rw [e];exact Kc hl hb hpar hA hlt hsp
 .intro sp _;rw [e,hv];rfl
 .exact ok_one hrt R (okWide_bool_mk htb true)
end
end
theorem Gw(a:Addr)(n:Nat):(a.add n).block=a.block:=by unfold Addr.add;split<;>rfl
theorem Pc(a:Addr)(i j:Nat):(a.add i).add j=a.add (i+j):=by
 unfold Addr.add;by_cases hi:i=0<;>by_cases hj:j=0<;>simp [hi,hj,Nat.add_assoc]
def Reads(w:World)(B size:Nat)(A:Option Addr)(n:Nat)(xs:List Value):Prop:=
 xs.length=n*size/\(0<n->∃ad,A=some ad/\ad.block<B/\∀j u,xs[j]? =some u->w.cell? (ad.add j)=some u)
section
variable{w w':World}{B B' size n:Nat}{A:Option Addr}{xs:List Value}
theorem Reads.at_{k:Nat}(h:Reads w B 1 A n xs)(hk:k<n):∃ad u,A=some ad/\ad.block<B/\xs[k]? =some u/\w.cell? (ad.add k)=some u:=by
 obtain⟨ad,e,hb,hc⟩:=h.2 qd;have hl:k<xs.length:=by have:=h.1;omega
 exact⟨ad,xs[k],e,hb,XAO hl,hc k _ (XAO hl)⟩
theorem Reads.keep(h:Reads w B size A n xs)(hk:∀p:Addr,p.block<B->w'.cell? p=w.cell? p):Reads w' B size A n xs:=
 ⟨h.1,λhn=>by
  obtain⟨ad,e,hb,hc⟩:=h.2 hn
  exact⟨ad,e,hb,λj u hu=>(hk _ (by rw [Gw];exact hb)).trans (hc j u hu)⟩⟩
theorem Reads.more(h:Reads w B size A n xs)(hB:B<=B'):Reads w B' size A n xs:=
 ⟨h.1,λhn=>by
  obtain⟨ad,e,hb,hc⟩:=h.2 hn
  exact⟨ad,e,qd,hc⟩⟩
theorem Reads.below(h:Reads w B size A n xs)(hb:Below B w w'):Reads w' B size A n xs:=h.keep λ_ hp=>hb.cell hp
theorem Reads.drew(h:Reads w B size A n xs):Reads w.drew B size A n xs:=h
theorem Reads.drewN(h:Reads w B size A n xs)(k:Nat):Reads (w.drewN k) B size A n xs:=h
theorem Reads.alloc(h:Reads w B size A n xs)(hB:B<=w.heap.size)(o:Obj):Reads (w.alloc o) B size A n xs:=h.keep λp hp=>XA9 w o p qd
theorem Reads.setCell(h:Reads w B size A n xs){p:Addr}(hB:B<=p.block)(u:Value):Reads (w.setCell p u) B size A n xs:=
 h.keep λq hq=>XEM w p q u (λe=>by subst e;omega)
theorem Reads.grown(h:Reads w B size A n xs){row:Option Nat}(hg:w.grownBy w' row)(hB:B<=w.heap.size)(hr:∀g,row=some g->B<=g):Reads w' B size A n xs:=
 h.keep λp hp=>XAP (hg.block p.block qd (λe=>by have:=hr _ e.symm;omega))
theorem Reads.cut(h:Reads w B size A n xs){k cap:Nat}(hk:k<=n)(hc:n<=cap):
  Reads w B size (if cap=k then A else A.map (·.add (k*size))) (n-k) (xs.drop (k*size)):=by
 refine⟨by rw [XB6,h.1,Nat.sub_mul],λhn=>?_⟩;obtain⟨ad,rfl,hb,hcell⟩:=h.2 qd;rw [XAD qd];refine⟨ad.add (k*size),R,by rw [Gw];exact hb,λj u hu=>?_⟩;rw [Pc];exact hcell _ u (by rw [<-hu,XDU])
theorem Reads.gj{base:Nat}{e:TypeId}{c:Nat}(h:w.ownsRow base e size (.slice A n c) n xs):Reads w w.heap.size size A n xs:=by
 refine⟨h.1,λhn=>?_⟩;obtain⟨g,cap,hv,_,hlt⟩:=h.form hn;have hA:A=some ⟨g,0,none⟩:=by injection hv
 subst hA;exact⟨_,R,hlt,h.cells (g:=g) R⟩
end
section
variable{P:Program}(w:World)
theorem aae(base:Nat)(t ty e:TypeId)(i:TypeInfo)(size:Nat)(ht:P.underlying t=some (.slice e))(hi:P.info? e=some i)
 (v:Value)(n:Nat)(xs:List Value)(hown:w.ownsRow base e size v n xs)(c:Nat):(Builtin.append_ #[t,t] ty #[v,.slice none 0 c]).run P w=.ok v w:=by
 rcases hown.2 with⟨rfl,rfl⟩|⟨g,cap,cur,rfl,_,_,hnc,_⟩
 .simp [Builtin.append_,XBv ht,sizeOf,typeInfo,hi,Builtin.lenOf,Builtin.firstCells]
 .simp [Builtin.append_,XBv ht,sizeOf,typeInfo,hi,Builtin.lenOf,Builtin.firstCells,hnc,storeCells]
theorem aag(base:Nat)(t ty e:TypeId)(i:TypeInfo)(z:Value)(size bytes:Nat)(ht:P.underlying t=some (.slice e))(hi:P.info? e=some i)(hz:i.zero=some z)
 (hsize:i.size=size)(hby:i.bytes=bytes)(hzs:z.cells.size=size)(hsz:0<size)
 (v:Value)(n:Nat)(xs:List Value)(hown:w.ownsRow base e size v n xs)
 (B:Nat)(A:Option Addr)(m c:Nat)(news:List Value)(hr:Reads w B size A m news)(h1:∀u∈news,u.oneCell'=true)
 (h63:n+m<=maxLen)(hbytes:(n+m)*bytes<=140737488355328)(hbase:base<=w.heap.size):
  ∃v' w',(Builtin.append_ #[t,t] ty #[v,.slice A m c]).run P w=.ok v' w'/\w'.ownsRow base e size v' (n+m) (xs++news)/\w.grownBy w' v.ownBlock/\
   (v'.ownBlock=v.ownBlock\/v'.ownBlock=some w.heap.size):=by
 rcases A with _|ad
 .have hm:m=0:=by
   rcases XAr m with h0|h0
   .exact h0
   .obtain⟨ad,h,_⟩:=hr.2 h0;cases h
  subst hm;have hn:news= []:=XBN (by simpa using hr.1);subst hn;exact⟨v,w,aae w base t ty e i size ht hi v n xs hown c,by simpa using hown,World.grownBy.refl w _,.inl R⟩
 .have hcells:∀j u,news[j]? =some u->w.cell? (ad.add j)=some u:=by
   intro j u hu;rcases XAr m with h0|h0
   .subst h0;have hn:news= []:=XBN (by simpa using hr.1);subst hn;simp at hu
   .obtain⟨ad',h,_,hc⟩:=hr.2 h0;injection h with h;subst h;exact hc j u hu
  obtain⟨v',w',hrun,h2,h3,_,h5⟩:=run_append_own_at (P:=P) w base t ty e i z size bytes ht hi hz hsize hby hzs hsz v n xs hown ad m c news hr.1 hcells h1 h63 hbytes hbase;exact⟨v',w',hrun,h2,h3,h5⟩
theorem Mh{o:Oper}{a:Act}{K:Act->World->Prop}{Q:Exit->Act->World->Prop}(s x:Operand)(t:TypeId)
 (ho:o.op=.call { callee:=.builtin .append,args:=#[s,x],argTypes:=#[t,t] })
 (base:Nat)(e:TypeId)(i:TypeInfo)(z:Value)(size bytes:Nat)(ht:P.underlying t=some (.slice e))(hi:P.info? e=some i)(hz:i.zero=some z)
 (hsize:i.size=size)(hby:i.bytes=bytes)(hzs:z.cells.size=size)(hsz:0<size)
 (v:Value)(n:Nat)(xs:List Value)(hs:a.eval s=v)(hown:w.ownsRow base e size v n xs)
 (B:Nat)(A:Option Addr)(m c:Nat)(news:List Value)(hx:a.eval x=.slice A m c)(hr:Reads w B size A m news)(h1:∀u∈news,u.oneCell'=true)
 (h63:n+m<=maxLen)(hbytes:(n+m)*bytes<=140737488355328)(hbase:base<=w.heap.size)
 (h:∀v' w',w'.ownsRow base e size v' (n+m) (xs++news)->w.grownBy w' v.ownBlock->(v'.ownBlock=v.ownBlock\/v'.ownBlock=some w.heap.size)->K (a.put o.dst v') w'):o.wp P a w K Q:=by
 obtain⟨v',w',hrun,h2,h3,h4⟩:=aag (P:=P) w base t o.type e i z size bytes ht hi hz hsize hby hzs hsz v n xs hown B A m c news hr h1 h63 hbytes hbase;unfold Oper.wp execOp;simp only [ho,resolve,invoke,builtin,XDV,XDW,Result.andThen_ok,List.map_toArray,XBw,List.map_nil,hs,hx,hrun];exact h v' w' h2 h3 h4
theorem uE{ops:Array Oper}{rest:List Oper}{o:Oper}{a:Act}{Q:Exit->Act->World->Prop}(hgd:o.guard=none)(s x:Operand)(t:TypeId)
 (ho:o.op=.call { callee:=.builtin .append,args:=#[s,x],argTypes:=#[t,t] })
 (base:Nat)(e:TypeId)(i:TypeInfo)(z:Value)(size bytes:Nat)(ht:P.underlying t=some (.slice e))(hi:P.info? e=some i)(hz:i.zero=some z)
 (hsize:i.size=size)(hby:i.bytes=bytes)(hzs:z.cells.size=size)(hsz:0<size)
 (v:Value)(n:Nat)(xs:List Value)(hs:a.eval s=v)(hown:w.ownsRow base e size v n xs)
 (B:Nat)(A:Option Addr)(m c:Nat)(news:List Value)(hx:a.eval x=.slice A m c)(hr:Reads w B size A m news)(h1:∀u∈news,u.oneCell'=true)
 (h63:n+m<=maxLen)(hbytes:(n+m)*bytes<=140737488355328)(hbase:base<=w.heap.size)
 (h:∀v' w',w'.ownsRow base e size v' (n+m) (xs++news)->w.grownBy w' v.ownBlock->(v'.ownBlock=v.ownBlock\/v'.ownBlock=some w.heap.size)->wpList P ops Q rest (a.put o.dst v') w'):wpList P ops Q (o::rest) a w:=
 wpList_plain hgd λ_ hK=>Mh w s x t ho base e i z size bytes ht hi hz hsize hby hzs hsz v n xs hs hown B A m c news hx hr h1 h63 hbytes hbase λv' w' h2 h3 h4=>hK _ _ (h v' w' h2 h3 h4)
theorem LH{ops:Array Oper}{o:Oper}{a:Act}{K:Act->World->Prop}{Q:Exit->Act->World->Prop}{ag:Prop}(hgd:o.guard=none)(s x:Operand)(t:TypeId)
 (ho:o.op=.call { callee:=.builtin .append,args:=#[s,x],argTypes:=#[t,t] })
 (base:Nat)(e:TypeId)(i:TypeInfo)(z:Value)(size bytes:Nat)(ht:P.underlying t=some (.slice e))(hi:P.info? e=some i)(hz:i.zero=some z)
 (hsize:i.size=size)(hby:i.bytes=bytes)(hzs:z.cells.size=size)(hsz:0<size)
 (v:Value)(n:Nat)(xs:List Value)(hs:a.eval s=v)(hown:w.ownsRow base e size v n xs)
 (B:Nat)(A:Option Addr)(m c:Nat)(news:List Value)(hx:a.eval x=.slice A m c)(hr:Reads w B size A m news)(h1:∀u∈news,u.oneCell'=true)
 (h63:n+m<=maxLen)(hbytes:(n+m)*bytes<=140737488355328)(hbase:base<=w.heap.size)
 (h:∀v' w',w'.ownsRow base e size v' (n+m) (xs++news)->w.grownBy w' v.ownBlock->(v'.ownBlock=v.ownBlock\/v'.ownBlock=some w.heap.size)->K (a.put o.dst v') w'):
  if Region.wanted o (yielded ops a.tmps)=true then Oper.wp P o a w K Q else ag:=by
 have hw:Region.wanted o (yielded ops a.tmps)=true:=qjo;rw [XAE hw];exact Mh w s x t ho base e i z size bytes ht hi hz hsize hby hzs hsz v n xs hs hown B A m c news hx hr h1 h63 hbytes hbase h
end
section
open Go.ChangeShapes Go.WideShapes Go.RowKit
section
variable{H:Type}{enc:TypeId × Value->H}{P:Program}{w:World}
end
theorem Row.reads{w:World}{A:Option Addr}{xs:List Value}{n:Nat}(h:Row w A xs)(hn:xs.length=n):Reads w w.heap.size 1 A n xs:=
 ⟨qd,λhp=>by
  obtain⟨b,off,e,hb,hc⟩:=h qd
  exact⟨_,e,hb,λj u hu=>by rw [addr_add];exact hc j u hu⟩⟩
end
theorem nP:(prog.info? 3).map (λi=>(i.zero,i.size,i.bytes))=some (some (I 0),1,8):=qh
theorem below_grown{B:Nat}{a w w':World}{row:Option Nat}(h:Below B a w)(hg:w.grownBy w' row)(hB:B<=w.heap.size)(hr:∀g,row=some g->B<=g):Below B a w':=
 h.trans ⟨hg.os,hg.tape,hg.output,hg.size,λk hk=>hg.block k qd (λe=>qjs)⟩
section
open Go.ChangeMaps (setBlock heap_setBlock_same heap_setBlock_other)
open Go.Maps (Keyed)
def dC(x:Int):Prop:=(Lit.int .i64 x).wf=true
theorem JK{x:Int} :dC x↔ -9223372036854775808<=x/\x<=9223372036854775807:=by
 unfold dC;rw [Lit.wf_int_iff];simp [IntKind.min,IntKind.max,IntKind.bits,IntKind.signed]
theorem gY{x:Int}(h1: -9223372036854775808<=x)(h2:x<=9223372036854775807):dC x:=JK.2 ⟨h1,h2⟩
section
variable{α:Type}(mk:α->Value)
noncomputable def sy (v:Value):Option (DataW Value × List MemPlace):=by classical exact if ∃c,v=mk c then some (.held v, []) else none
theorem DU(c:α):sy mk (mk c)=some (.held (mk c), []):=by unfold sy;rw [XAE ⟨c,R⟩]
theorem zD{v:Value}{y:DataW Value × List MemPlace}(h:sy mk v=some y):∃c,v=mk c/\y=(.held (mk c), []):=by
 unfold sy at h;split at h
 .rename_i hc;obtain⟨c,rfl⟩:=hc;exact⟨c,R,(XAl h).symm⟩
 .cases h
def lA(D:DataW Value)(F:Int->Option α):Prop:=∀x,dC x->(∀zd,D.atKey (.int .i64 x) zd=match F x with|some c=>.held (mk c)|none=>zd)/\Maps.has D (.int .i64 x)=(F x).isSome
def cU(F:Int->Option α)(x:Int)(c:Option α):Int->Option α:=λa=>if a=x then c else F a
variable{mk}
theorem Df(x:Int):WideAt.IsKeyLit (.int .i64 x):=by simp [WideAt.IsKeyLit]
theorem lA.empty:lA mk (.map []) (λ_=>none):=λx _=>⟨λ_=>rfl,by simp [Maps.has]⟩
theorem lA.put{D:DataW Value}{F:Int->Option α}(h:lA mk D F)(hD:Maps.IsMap D){x:Int}(hx:dC x)(c:α):lA mk (D.put (.int .i64 x) (.held (mk c))) (cU F x (some c)):=λa ha=>by
 unfold cU;by_cases e:a=x
 .subst e;rw [XAE R,Maps.has_put_same hD (Df a)];exact⟨λzd=>Maps.atKey_put_same hD (Df a) _ _,R⟩
 .have hne:Lit.int .i64 a≠ .int .i64 x:=λe'=>e (by injection e');rw [XAD e,Maps.has_put_other hne];exact⟨λzd=>by rw [Maps.atKey_put_other hne];exact(h a ha).1 zd,(h a ha).2⟩
theorem lA.del{D:DataW Value}{F:Int->Option α}(h:lA mk D F){x:Int}(hx:dC x):lA mk (D.del (.int .i64 x)) (cU F x none):=λa ha=>by
 unfold cU;by_cases e:a=x
 .subst e;rw [XAE R,Maps.has_del_same];exact⟨λzd=>Maps.atKey_del_same zd,R⟩
 .have hne:Lit.int .i64 a≠ .int .i64 x:=λe'=>e (by injection e');rw [XAD e,Maps.has_del_other hne];exact⟨λzd=>by rw [Maps.atKey_del_other hne];exact(h a ha).1 zd,(h a ha).2⟩
variable(mk)
def bR(P:Program)(k:TypeId)(w:World)(b n:Nat)(F:Int->Option α):Prop:=∃D:DataW Value,w.ownsMap P k (sy mk) b n D/\lA mk D F
variable{mk}
variable{P:Program}{k mt e:TypeId}{w w':World}{b n:Nat}{F:Int->Option α}
theorem bR.new(w:World):bR mk P k (w.alloc (.map #[] 0)) w.heap.size 0 (λ_=>none):=⟨.map [],World.ownsMap_made _ _ _ _,lA.empty⟩
theorem bR.lt(h:bR mk P k w b n F):b<w.heap.size:=by obtain⟨D,h1,-⟩:=h;exact h1.lt
theorem bR.mono(h:bR mk P k w b n F){n':Nat}(hn:n<=n'):bR mk P k w b n' F:=qgw
theorem bR.heap(h:bR mk P k w b n F)(e:w'.heap[b]? =w.heap[b]?):bR mk P k w' b n F:=by
 obtain⟨D,⟨es,clock,hb,r⟩,h2⟩:=h;exact⟨D,⟨es,clock,e.trans hb,r⟩,h2⟩
theorem bR.below(h:bR mk P k w b n F)(hb:Below w w w'):bR mk P k w' b n F:=h.heap (hb.block b h.lt)
theorem bR.alloc(h:bR mk P k w b n F)(o:Obj):bR mk P k (w.alloc o) b n F:=h.heap (XAX w o b h.lt)
theorem bR.far(h:bR mk P k w b n F){p:Addr}(hp:b≠p.block)(u:Value):bR mk P k (w.setCell p u) b n F:=h.heap (XAN w p u b hp)
theorem bR.congr(h:bR mk P k w b n F){G:Int->Option α}(e:∀x,dC x->G x=F x):bR mk P k w b n G:=by
 obtain⟨D,h1,h2⟩:=h;exact⟨D,h1,λx hx=>by rw [e x hx];exact h2 x hx⟩
theorem y7(hk:P.underlying k=some (.int .i64)){x:Int}(hx:dC x):keyOf P k (.int .i64 x)=some (.int .i64 x):=by have hx':(Lit.int .i64 x).wf=true:=hx;simp [keyOf,mapKey,hk,hx']
theorem bR.look(h:bR mk P k w b n F)(hk:P.underlying k=some (.int .i64))(ht:P.underlying mt=some (.map k e)){z:α}(hz:∀W,(zeroValue e).run P W=.ok (mk z) W){x:Int}(hx:dC x)(w':World)(he:w'.heap[b]? =w.heap[b]?):
  (Instr.lookup mt (.map (some b)) (.int .i64 x) true).run P w'=.ok (.tuple #[mk ((F x).getD z),.bool (F x).isSome]) w':=by
 obtain⟨D,h1,h2⟩:=h.heap he;obtain⟨v,ps,hrun,hv⟩:=h1.look_ok (XCc hk) ht (hz w') (DU mk z) (y7 hk hx);obtain⟨e1,e2⟩:=h2 x hx;rw [e1] at hv;obtain⟨c,rfl,hy⟩:=zD mk hv;rw [hrun,e2];cases hF:F x with
 |none=>
  rw [hF] at hy;injection hy with hy _;injection hy with hy;simp [hy]
 |some d=>
  rw [hF] at hy;injection hy with hy _;injection hy with hy;simp [hy]
theorem bR.look1(h:bR mk P k w b n F)(hk:P.underlying k=some (.int .i64))(ht:P.underlying mt=some (.map k e)){z:α}(hz:∀W,(zeroValue e).run P W=.ok (mk z) W){x:Int}(hx:dC x)(w':World)(he:w'.heap[b]? =w.heap[b]?):
  (Instr.lookup mt (.map (some b)) (.int .i64 x) false).run P w'=.ok (mk ((F x).getD z)) w':=by
 obtain⟨D,h1,h2⟩:=h.heap he;obtain⟨v,ps,hrun,hv⟩:=h1.lookup (XCc hk) ht (hz w') (DU mk z) (y7 hk hx);obtain⟨e1,e2⟩:=h2 x hx;rw [e1] at hv;obtain⟨c,rfl,hy⟩:=zD mk hv;rw [hrun];cases hF:F x with
 |none=>
  rw [hF] at hy;injection hy with hy _;injection hy with hy;simp [hy]
 |some d=>
  rw [hF] at hy;injection hy with hy _;injection hy with hy;simp [hy]
theorem bR.len(h:bR mk P k w b n F)(ht:P.underlying mt=some (.map k e))(ty:TypeId):∃m:Nat,m<=n/\(Builtin.len_ #[mt] ty #[.map (some b)]).run P w=.ok (.int .i64 (m:Int)) w:=by
 obtain⟨D,h1,h2⟩:=h;exact⟨Maps.size D,h1.size_le,h1.len ht ty⟩
section
variable{ops:Array Oper}{rest:List Oper}{o:Oper}{a:Act}{Q:Exit->Act->World->Prop}
theorem ju(hg:o.guard=none)(mt:TypeId)(m x v:Operand)(hop:o.op=Op.mapUpdate mt m x v)(hk:P.underlying k=some (.int .i64))(ht:P.underlying mt=some (.map k e))(hm:a.eval m=.map (some b))(h:bR mk P k w b n F)(hn:n<maxLen)(X:Int)(c:α)
 (hx:a.eval x=.int .i64 X)(hv:a.eval v=mk c)(hX:dC X)
 (hK:∀w',bR mk P k w' b (n+1) (cU F X (some c))->w.mapTurned w' b->wpList P ops Q rest (a.put o.dst undef) w'):wpList P ops Q (o::rest) a w:=by
 obtain⟨D,h1,h2⟩:=h;exact wpList_mapUpdate_in w hg m x v mt hop _ _ (XCc hk) ht _ b n D hm h1 hn _ _ _ hx hv (y7 hk hX) _ [] (DU mk c) λw' h3 h4=>hK w' ⟨_,h3,h2.put h1.isMap hX c⟩ h4
theorem Mg(hg:o.guard=none)(mt k:TypeId)(m x:Operand)(hop:o.op=Op.call { callee:=Callee.builtin Builtin.delete,args:=#[m,x],argTypes:=#[mt,k] })(hk:P.underlying k=some (.int .i64))(ht:P.underlying mt=some (.map k e))(hm:a.eval m=.map (some b))(h:bR mk P k w b n F)(X:Int)
 (hx:a.eval x=.int .i64 X)(hX:dC X)
 (hK:∀w',bR mk P k w' b n (cU F X none)->w.mapTurned w' b->wpList P ops Q rest (a.put o.dst (.tuple #[])) w'):wpList P ops Q (o::rest) a w:=by
 obtain⟨D,h1,h2⟩:=h;exact wpList_delete_own w hg m x _ _ hop _ (XCc hk) ht _ b n D hm h1 _ _ hx (y7 hk hX) λw' h3 h4=>hK w' ⟨_,h3,h2.del hX⟩ h4
end
def eh(mk:α->Value)(P:Program)(k:TypeId)(w:World)(b r n:Nat)(F:Int->Option α)(left:Int->Bool)(cnt:Nat):Prop:=
 ∃(D:DataW Value)(lf:Lit->Bool),w.ranges P k (sy mk) b r n D lf cnt/\lA mk D F/\∀x,dC x->left x=lf (.int .i64 x)
section
variable{r cnt:Nat}{left:Int->Bool}{ops:Array Oper}{rest:List Oper}{o:Oper}{a:Act}{Q:Exit->Act->World->Prop}
theorem eh.owns(h:eh mk P k w b r n F left cnt):bR mk P k w b n F:=qgo
theorem eh.ne(h:eh mk P k w b r n F left cnt):r≠b:=by obtain⟨D,lf,h1,-⟩:=h;exact h1.ne
theorem eh.lt(h:eh mk P k w b r n F left cnt):r<w.heap.size:=by obtain⟨D,lf,h1,-⟩:=h;exact h1.lt
theorem eh.left_eq(h:eh mk P k w b r n F left cnt):w.rangeLeft b r=cnt:=qip
theorem eh.kept(h:eh mk P k w b r n F left cnt)(e1:w'.heap[b]? =w.heap[b]?)(e2:w'.heap[r]? =w.heap[r]?):eh mk P k w' b r n F left cnt:=by
 obtain⟨D,lf,⟨es,clock,since,seen,c0,hb,F1,hs,hD,hr,rest⟩,h2⟩:=h;exact⟨D,lf,⟨es,clock,since,seen,c0,e1.trans hb,F1,hs,hD,e2.trans hr,rest⟩,h2⟩
theorem eh.alloc(h:eh mk P k w b r n F left cnt)(o:Obj):eh mk P k (w.alloc o) b r n F left cnt:=h.kept (XAX w o b h.owns.lt) (XAX w o r h.lt)
theorem aao(hg:o.guard=none)(m:Operand)(mt:TypeId)(hop:o.op=Op.range mt m)(hk:P.underlying k=some (.int .i64))(ht:P.underlying mt=some (.map k e))(hm:a.eval m=.map (some b))(h:bR mk P k w b n F)
 (hK:∀w' cnt,eh mk P k w' b w.heap.size n F (λx=>(F x).isSome) cnt->w.grownBy w' none->w'.heap.size=w.heap.size+1->wpList P ops Q rest (a.put o.dst (.pointer (w.heap.size,0))) w'):wpList P ops Q (o::rest) a w:=by
 obtain⟨D,h1,h2⟩:=h;exact wpList_range_own w hg m mt hop k e (XCc hk) ht _ b n D hm h1 λw' r1 r2 r3=>hK w' _ ⟨D,_,r1,h2,λx hx=>((h2 x hx).2).symm⟩ r2 r3
theorem aar(hg:o.guard=none)(it:Operand)(hop:o.op=Op.next it false)(hk:P.underlying k=some (.int .i64))(hit:a.eval it=.pointer (r,0))(h:eh mk P k w b r n F left cnt)
 (hDone:cnt=0->(∀x,dC x->left x=false)->wpList P ops Q rest (a.put o.dst (.tuple #[.bool false])) w)
 (hMore:∀(x:Int)(c:α)(w':World)(cnt':Nat),dC x->F x=some c->left x=true->eh mk P k w' b r n F (λz=>left z && !decide (z=x)) cnt'->cnt'<cnt->w.grownBy w' (some r)->w'.heap.size=w.heap.size->
   (Instr.entry (.pointer (r,0))).run P w'=.ok (.tuple #[.int .i64 x,mk c]) w'->wpList P ops Q rest (a.put o.dst (.tuple #[.bool true,.int .i64 x,mk c])) w'):
  wpList P ops Q (o::rest) a w:=by
 obtain⟨D,lf,h1,h2,h3⟩:=h;refine wpList_next_ranges w hg it hop k (XCc hk) (sy mk) (Value.int .i64) mk (λkey kl hkey=>by obtain⟨x,rfl,_⟩:=Maps.keyOf_int_inv hk hkey;exact⟨x,R⟩) (λv y hv=>by obtain⟨c,rfl,_⟩:=zD mk hv;exact⟨c,R⟩)
  b r n D lf cnt hit h1 (λh0 hl=>hDone h0 λx hx=>(h3 x hx).trans (hl _)) λx c kl y w' cnt' hkey hlk hv hat hrg hlt hgr hsz hen=>?_
 obtain⟨x',ex,rfl,hwx⟩:=Maps.keyOf_int_inv hk hkey;injection ex with _ ex;subst ex;have C4:dC x:=hwx;obtain⟨e1,e2⟩:=h2 x C4;obtain⟨c',ec,hy⟩:=zD mk hv;have hF:∃d,F x=some d/\mk d=mk c:=by
  cases hF:F x with
  |none=>
   rw [hF] at e1;have q1:=(hat .nil).symm.trans (e1 .nil);have q2:=(hat (.ptr .nil)).symm.trans (e1 (.ptr .nil));rw [q1] at q2;cases q2
  |some d=>
   rw [hF] at e1;have q1:=(hat .nil).symm.trans (e1 .nil);rw [hy] at q1;injection q1 with q1;exact⟨d,R,by rw [ec];exact q1.symm⟩
 obtain⟨d,hd,hdc⟩:=hF;rw [<-hdc] at hen ⊢;refine hMore x d w' cnt' C4 hd ((h3 x C4).trans hlk) ⟨D,_,hrg,h2,λz hz=>?_⟩ hlt hgr hsz hen;show(left z && !decide (z=x))=_;rw [h3 z hz]
 congr 2
 by_cases ez:z=x
 .subst ez;rw [XEa (Df z)];simp
 .rw [Maps.sameKey_ne (λe'=>ez (by injection e')),XAS ez]
end
end
end
end Go.Proofs.YtedefgjfgdcfdaaGreatDoor
