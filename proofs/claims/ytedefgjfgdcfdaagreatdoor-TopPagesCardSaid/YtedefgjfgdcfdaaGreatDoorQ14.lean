/- Walks and laws for TopPages. -/
import Derived.Test.YtedefgjfgdcfdaaGreatDoorQ13
import Derived.RangeFuncFrom
import Derived.RangeFuncNested
import Derived.RangeFuncBox
import Derived.Shelf.SlGeneric
import Derived.Shelf.Slices.Turned
import Derived.Ground.Names2Prog
import Derived.Shelf.Slices.Clone
import Derived.Shelf.Slices.SearchI
import Derived.Shelf.Slices.Empties
import Derived.Shelf.SlicesE.IndexFunc
import Derived.Shelf.SlicesQ.IndexFunc
import Derived.Shelf.SlicesE.Clone
import Derived.Ground.SlgnProg
import Derived.Ground.SlgfProg
import Derived.Test.YtedefgjfgdcfdaaGreatDoorProg
import Derived.Deep.OwnRows
import Derived.OrdersHeld
namespace Go.Proofs.YtedefgjfgdcfdaaGreatDoor
open Go.RowKit Go.Proofs.Tryz
set_option maxRecDepth 100000
set_option maxHeartbeats 4000000
def bD(t:Tk):Array Value:=#[I t.ar,I t.aj,I t.pc,I t.az,I t.aB,I t.ai,I t.aq,
 J t.H,J t.T,J t.F,J t.K,J t.N,
 I t.au,I t.ay,I t.to,I t.aw,I t.fr]
def aQ:Array Value:=#[I 0,I 0,I 0,I 0,I 0,I 0,I 0,J 0,J 0,J 0,J 0,J 0,I 0,I 0,I 0,I 0,I 0]
theorem fC:(prog.info? 210).map (·.size)=some 17:=qh
section
variable{ops:Array Oper}{rest:List Oper}{op:Oper}{a:Act}{w:World}{Q:Exit->Act->World->Prop}{s:Nat}
theorem iC(hgd:op.guard=none)(x:Operand)(ho:op.op=.load 210 x)(hx:a.eval x=.pointer (s,0))(t:Tk)(hb:ak w s 210 (bD t))(h:wpList prog ops Q rest (a.put op.dst (aH t)) w):wpList prog ops Q (op::rest) a w:=
 wpList_load_mid hgd _ x ho s 0 hx (bD t).toList _ hb.range XAQ R fC h
theorem bn(hgd:op.guard=none)(x y:Operand)(ho:op.op=.store 210 x y)(hx:a.eval x=.pointer (s,0))(t:Tk)(hy:a.eval y=aH t){cs:Array Value}(hb:ak w s 210 cs)(hz:cs.size=17)
 (h:∀w',Only s w w'->ak w' s 210 (bD t)->wpList prog ops Q rest (a.put op.dst undef) w'):wpList prog ops Q (op::rest) a w:=
 aU hgd _ x y ho (bD t) hx hy hb (hz.trans R) (fC.trans R) (by simp [bD,Value.oneCell']) h
theorem wY{C:World->Prop}{ah:Act->Prop}(hgd:op.guard=none)(x:Operand)(ho:op.op=.load 210 x)(hx:a.eval x=.pointer (s,0))(t:Tk)(hb:∀W,C W->ak W s 210 (bD t))(h:wpQuiet prog ops C ah rest (a.put op.dst (aH t))):wpQuiet prog ops C ah (op::rest) a:=
 Go.BigFrame.wpQuiet_want qjo λK hK=>⟨aH t,λW hW=>by
  unfold Oper.quietAt execOp
  simp only [ho,hx,XDV,XDW]
  rw [run_loadAt_mid (P:=prog) W s 0 _ (bD t).toList _ (hb W hW).range XAQ R fC]
  exact⟨R,R⟩,hK _ h⟩
end
theorem kJ{A:Nat->Nat->World->Prop}{G:Prop}{P:Nat->Nat->World->Prop}(main:(∀x y z,A x y z->P x y z)->G)(next:∀x y z,A x y z->P x y z):G:=main next
theorem Sh{α β:Type}{A:α->β->World->Prop}{G:Prop}{P:α->β->World->Prop}(main:(∀x y z,A x y z->P x y z)->G)(next:∀x y z,A x y z->P x y z):G:=main next
theorem bg{P:Program}{c:Code}{Q:Exit->Act->World->Prop}{a:Act}{w:World}(h:∀W,W=w->Code.wp P c Q a W):Code.wp P c Q a w:=h w rfl
theorem LI{P:Program}{ops:Array Oper}{o:Oper}{a:Act}{w:World}{K:Act->World->Prop}{Q:Exit->Act->World->Prop}{ag:Prop}(hgd:o.guard=none){f:FuncId}{args:Array Value}(hrun:(execOp a.eval o).run P w=.ok (.enter f args) w)
 {post:Ending->World->Prop}(hc:Calls P f args w post)(h:∀e w',post e w'->∃v,e=.returned v/\K (a.put o.dst v) w'):if Region.wanted o (yielded ops a.tmps)=true then Oper.wp P o a w K Q else ag:=by
 have hw:Region.wanted o (yielded ops a.tmps)=true:=qjo;rw [XAE hw];unfold Oper.wp;rw [hrun,Oper.upon_enter];refine hc.mono λe w' hp=>?_;obtain⟨v,rfl,hk⟩:=h e w' hp;exact hk
section
open Go
section
variable{F:Fence}{n:Nat}{P:Program}{α:Type}{encs:α->Array Value}{Kp:World->World->Prop}{S Sp:List α->Prop}{N Bx:Nat}{w0 w:World}{gf:Nat}{lb:Array Value}
structure Mu(Bx:Nat)(W:World)(ab Jx:List α->World->Prop):Prop where
 on:AbidesFrom W.heap.size ab
 off:AbidesFrom W.heap.size Jx
 box:∀s A v,ab s A->ab s (A.setCell (Bx,0) v)
def FT(F:Fence)(n:Nat)(P:Program)(l:Nat)(encs:α->Array Value)(Kp:World->World->Prop)(ab Jx:List α->World->Prop)(pre:List α)(x:α)(W:World):Prop:=
 YieldAt F (n-1) P l (encs x) W λe W'=>(e=.returned (.bool true)/\ab (pre++ [x]) W'/\Kp W W')\/(e=.returned (.bool false)/\Jx (pre++ [x]) W')
def MF(S Sp:List α->Prop)(ab Jx:List α->World->Prop)(e:Ending)(W':World):Prop:=(∃v,e=.returned v)/\((∃xs,S xs/\ab xs W')\/(∃pre,Sp pre/\Jx pre W'))
def oN(F:Fence)(n:Nat)(P:Program)(g:Nat)(lb:Array Value)(encs:α->Array Value)(Kp:World->World->Prop)(S Sp:List α->Prop)(N Bx:Nat)(w:World):Prop:=
 ∀(l:Nat)(ab Jx:List α->World->Prop)(W:World),Below w w W->Mu Bx W ab Jx->(∀pre x W1,ab pre W1->pre.length<N->FT F n P l encs Kp ab Jx pre x W1)->ab [] W->CallsIn F n P g (#[.func (.yield l) #[] #[]]++lb) W (MF S Sp ab Jx)
theorem oN.KD(h:SeqStopsK F n P gf lb encs Kp S Sp N w):oN F n P gf lb encs Kp S Sp N Bx w:=λl ab Jx W hW h1 h3 h4=>h l ab Jx W hW h1.on h1.off h3 h4
def PostB(Kp:World->World->Prop)(aa Ix:List α->World->Prop)(xs:List α)(W:World):Exit->Act->World->Prop
 | .normal,_,W'=>KeepsOthers W W'/\Kp W W'/\aa xs W'
 | .ret,_,W'=>KeepsOthers W W'/\Ix xs W'
 |_,_,_=>False
def iI(D:Nat)(r:Loop)(W:World):Prop:=W.heap[D+1]? =some (.loop r)/\W.heap[D]? =some (.deferred (some []))
theorem iI.grown{D:Nat}{r:Loop}{A B:World}{row:Option Nat}(h:iI D r A)(hg:A.grownBy B row)(hr:∀x,row=some x->∃o:Obj,A.heap[x]? =some o/\o.isWalk=true):iI D r B:=
 ⟨(grownBy_keeps hg hr h.1 R).trans h.1,(grownBy_keeps hg hr h.2 R).trans h.2⟩
theorem iI.box{D:Nat}{r:Loop}{A:World}(h:iI D r A)(hB:Bx<D)(v:Value):iI D r (A.setCell (Bx,0) v):=
 ⟨(XAN A _ v _ (by show D+1≠Bx;omega)).trans h.1,(XAN A _ v _ (by show D≠Bx;omega)).trans h.2⟩
theorem iI.put{D:Nat}{r:Loop}{A:World}(h:iI D r A)(r':Loop):iI D r' (A.putObj (D+1) (.loop r')):=
 ⟨World.putObj_heap_same (XDQ.1 h.1).1,(World.putObj_heap_other qd).trans h.2⟩
theorem iI.others{D:Nat}{r:Loop}{A B:World}(h:iI D r A)(hk:KeepsOthers A B):iI D r B:=⟨hk.same _ _ h.1 R,hk.same _ _ h.2 R⟩
theorem Eg{g:Operand}{ps:Array Tmp}{assign body:Code}{Q:Exit->Act->World->Prop}{a:Act}
 (hro:F.round=none)(h1:1<=n)(hg:a.eval g=.func (.func gf) #[] lb)(hFg:F.fn gf)(eg:∀args w,(callFunc gf args).run P w=.ok (.enter gf args) w)
 (hseq:oN F (n-1) P gf lb encs Kp S Sp N Bx w0)(hBx:Bx<w.heap.size)(hb0:Below w0 w0 w)(hps:∀x,(encs x).size=ps.size)
 (hKt:∀{X af ae:World},Kp X af->Kp af ae->Kp X ae)(hKb:∀(W:World)(l:Nat)(o o':Obj),w.heap.size<=l->W.heap[l]? =some o->o.isCells=false->o.isWalk=false->Kp W (W.putObj l o'))
 (aa Ix:List α->World->Prop)(hI:OwnFrom w.heap.size aa)(hIx:OwnFrom w.heap.size Ix)(VL:∀s W v,aa s W->aa s (W.setCell (Bx,0) v))(h0:aa [] w)(a₁:α->Act)
 (hassign:∀(l:Nat)(x:α)(W:World)(K:Act->World->Prop),K (a₁ x) W->assign.wpIn (F.inRound l) (n-1-1) P (Exit.then K (λ_ _ _=>False)) { tmps:=(ps.zip (encs x)).foldl (λt (p,v)=>t.setIfInBounds p v) a.tmps,defers:= [] } W)
 (hbody:∀(l:Nat)(pre:List α)(x:α)(W:World),aa pre W->pre.length<N->body.wpIn (F.inRound l) (n-1-1) P (PostB Kp aa Ix (pre++ [x]) W) (a₁ x) W)
 (hdone:∀(D:Nat)(xs:List α)(W:World),w.heap.size<=D->S xs->aa xs W->W.heap[D]? =some (.deferred (some []))->Q .normal { a with defers:= { target:=.collected D,args:=#[] } ::a.defers } W)
 (hstop:∀(D:Nat)(pre:List α)(W:World),w.heap.size<=D->Sp pre->Ix pre W->W.heap[D]? =some (.deferred (some []))->Code.ret.wpIn F n P Q { a with defers:= { target:=.collected D,args:=#[] } ::a.defers } W):
  (Code.rangeFunc g ps assign body).wpIn F n P Q a w:=by
 refine wpIn_rangeFunc λfn hfn=>?_;rw [hro];generalize hD:w.heap.size=D at hI hIx hBx hdone hstop hKb ⊢
 let r:LoopState->Option Code->Loop:=λst pe=> { state:=st,pending:=pe,fn,tmps:=a.tmps,params:=ps,assign,body,defers:=D }
 let W1:=(w.alloc (.deferred (some []))).alloc (.loop (r .ready none))
 have hL:iI D (r .ready none) W1:=by
  refine⟨?_,?_⟩
  .have:=World.alloc_heap_new (w.alloc (.deferred (some []))) (.loop (r .ready none))
   rwa [XAT,hD] at this
  .rw [<-hD];exact(XAX _ _ _ ql).trans (World.alloc_heap_new w _)
 have hs1:W1.heap.size=D+2:=by show((w.alloc _).alloc _).heap.size=_;simp [hD]
 have hb1:Below w0 w0 W1:=hb0.trans ((((XAC _ w).alloc (XAB _) _).alloc ql _).mono hb0.size);have hwk:∀{A:World}{row:Option Nat},(∀x,row=some x->W1.heap.size<=x/\∃o:Obj,A.heap[x]? =some o/\o.isWalk=true)->∀x,row=some x->D<=x/\∃o:Obj,A.heap[x]? =some o/\o.isCells=false:=λhr x e=>by obtain⟨hB,o,ho,hw⟩:=hr x e;exact⟨qd,o,ho,Obj.not_cells_of_walk hw⟩
 refine⟨D+1, [{ target:=.collected D,args:=#[] }],W1,{ target:=.fn (.func gf) lb,args:=#[.func (.yield (D+1)) #[] #[]] },W1,gf,#[.func (.yield (D+1)) #[] #[]]++lb,W1,by have:=run_enterLoop_outer (P:=P) (w:=w) fn a.tmps ps assign body;rw [hD] at this;exact this,by simp only [resolve,hg];simp [go_sem],
  λf' hf'=>by simp [Target.leads] at hf';subst hf';exact hFg,by simp [invoke,go_sem,eg],λ_=>h1,?_⟩
 refine(hseq (D+1) (λpre W=>aa pre W/\iI D (r .ready none) W) (λpre W=>Ix pre W/\iI D (r .done (some .ret)) W) W1 hb1
  ⟨λs A B row hs hg' hr=>⟨hI s A B row hs.1 hg' (hwk hr),hs.2.grown hg' λx e=>(hr x e).2⟩,λs A B row hs hg' hr=>⟨hIx s A B row hs.1 hg' (hwk hr),hs.2.grown hg' λx e=>(hr x e).2⟩,λs A v hs=>⟨VL s A v hs.1,hs.2.box hBx v⟩⟩
  ?_ ⟨hI.alloc _ (hI.alloc _ h0),hL⟩).mono ?_
 .rintro pre x W ⟨hi,hl⟩ hlen;refine⟨fn,_,assign,body,run_yield (P:=P) (args:=encs x) hl.1 (hps x),roundIn_of_wpIn hfn (hassign _ x W _ ⟨_,run_beginRound hl.1 R,?_⟩)⟩;have hl2:=hl.put (r .busy none);have hw2:Kp W (W.putObj (D+1) (.loop (r .busy none))):=hKb _ _ _ _ qd hl.1 R rfl;refine wpIn_mono (hbody _ pre x _ (hI.putObj _ hi qd hl.1 R) hlen) ?_;rintro(_|_|_|_|_|_) a3 W3 hp
  all_goals first
   |exact hp.elim
   |(have hl3:=hl2.others hp.1;exact⟨_,_,run_endRound (P:=P) none hl3.1,.inl ⟨R,⟨hI.putObj _ hp.2.2 qd hl3.1 R,hl3.put _⟩,hKt (hKt hw2 hp.2.1) (hKb _ _ _ _ qd hl3.1 R R)⟩⟩)
   |(have hl3:=hl2.others hp.1;exact⟨_,_,run_endRound (P:=P) (some .ret) hl3.1,.inr ⟨R,hIx.putObj _ hp.2 qd hl3.1 R,hl3.put _⟩⟩)
 .rintro e W2 ⟨⟨v,rfl⟩,⟨xs,hS,hi,hl⟩|⟨pre,hSp,hi,hl⟩⟩
  .exact⟨none,_,run_endLoop (P:=P) hl.1 (by simp [r]),hdone _ xs _ (XAB _) hS (hI.putObj _ hi qd hl.1 R) ((World.putObj_heap_other qd).trans hl.2)⟩
  .exact⟨some .ret,_,run_endLoop (P:=P) hl.1 (by simp [r]),hstop _ pre _ (XAB _) hSp (hIx.putObj _ hi qd hl.1 R) ((World.putObj_heap_other qd).trans hl.2)⟩
end
end
def ext(cl:Nat->Nat)(w:World)(j:Nat):Nat->Nat:=λk=>if k<w.heap.size then cl k else j
section
variable{cl aD:Nat->Nat}{w w' w'':World}{j k:Nat}{js:List Nat}
theorem dG(h:k<w.heap.size):ext cl w j k=cl k:=XAE h
theorem mA(h:w.heap.size<=k):ext cl w j k=j:=XAD qd
structure Md(cl:Nat->Nat)(js:List Nat)(w w':World):Prop where
 os:w'.os=w.os
 tape:w'.tape=w.tape
 output:w'.output=w.output
 size:w.heap.size<=w'.heap.size
 block:∀k,k<w.heap.size->cl k∉js->w'.heap[k]? =w.heap[k]?
theorem Md.refl(cl:Nat->Nat)(js:List Nat)(w:World):Md cl js w w:=⟨R,R,R,XAB _,λ_ _ _=>rfl⟩
theorem Md.trans(h:Md cl js w w')(he:∀k,k<w.heap.size->aD k=cl k)(h':Md aD js w' w''):Md cl js w w'':=
 ⟨h'.os.trans h.os,h'.tape.trans h.tape,h'.output.trans h.output,XAL h.size h'.size,λk hk h1=>(h'.block k (XAH hk h.size) (by rw [he k hk];exact h1)).trans (h.block k hk h1)⟩
theorem Md.trans'(h:Md cl js w w')(h':Md cl js w' w''):Md cl js w w'':=h.trans (λ_ _=>rfl) h'
theorem Md.ext(h:Md cl js w w')(h':Md (ext cl w j) js w' w''):Md cl js w w'':=h.trans (λ_=>dG) h'
theorem Md.more{cZ:List Nat}(h:Md cl js w w')(hs:∀j∈js,j∈cZ):Md cl cZ w w':=⟨h.os,h.tape,h.output,h.size,λk hk h1=>h.block k hk λe=>h1 (hs _ e)⟩
theorem Md.of_below(cl:Nat->Nat)(js:List Nat)(h:Below w w w'):Md cl js w w':=⟨h.os,h.tape,h.output,h.size,λk hk _=>h.block k hk⟩
theorem Md.below(h:Md cl js w w')(hb:Below w' w' w''):Md cl js w w'':=h.trans' (Md.of_below cl js hb)
theorem Md.pO{gs:List Nat}(h:Rws gs w w')(hg:∀g∈gs,g<w.heap.size->cl g∈js):Md cl js w w':=⟨h.os,h.tape,h.output,h.size,λk hk h1=>h.block k hk λe=>h1 (hg k e hk)⟩
theorem Md.set(h:Md cl js w w'){g:Nat}(hg:g<w.heap.size->cl g∈js)(i:Nat)(u:Value):Md cl js w (w'.setCell (g,i) u):=
 ⟨h.os,h.tape,h.output,qbj,λk hk h1=>(XAN w' _ u k (λe=>h1 (by have e':k=g:=e;rw [e'];exact hg qd))).trans (h.block k hk h1)⟩
theorem Md.drew(h:Md cl js w w'):Md cl js w w'.drew:=⟨h.os,h.tape,h.output,h.size,h.block⟩
theorem Md.alloc(h:Md cl js w w')(o:Obj):Md cl js w (w'.alloc o):=h.below ((XAC _ _).alloc (XAB _) _)
theorem Md.only{g:Nat}(h:Md cl js w w')(ho:Only g w' w'')(hg:g<w.heap.size->cl g∈js):Md cl js w w'':=
 ⟨ho.os.trans h.os,ho.tape.trans h.tape,ho.output.trans h.output,XAL h.size (XAs ho.size.symm),λk hk h1=>(ho.block k (λe=>h1 (by rw [e] at hk ⊢;exact hg hk))).trans (h.block k hk h1)⟩
theorem Md.grown{row:Option Nat}(h:Md cl js w w')(hg:w'.grownBy w'' row)(hr:∀g,row=some g->g<w.heap.size->cl g∈js):Md cl js w w'':=
 ⟨hg.os.trans h.os,hg.tape.trans h.tape,hg.output.trans h.output,XAL h.size hg.size,λk hk h1=>(hg.block k (XAH hk h.size) (λe=>h1 (hr k e.symm hk))).trans (h.block k hk h1)⟩
theorem Md.blk(h:Md cl js w w'){t:TypeId}{cs:Array Value}(hb:ak w k t cs)(hk:cl k∉js):ak w' k t cs:=(h.block k hb.lt hk).trans hb
theorem Md.row(h:Md cl js w w'){e:TypeId}{vs:List Value}(hb:aG w k e vs)(hk:cl k∉js):aG w' k e vs:=hb.heap (h.block k hb.lt hk)
theorem Md.cell(h:Md cl js w w'){i:Nat}(hl:k<w.heap.size)(hk:cl k∉js):w'.cell? (k,i)=w.cell? (k,i):=XAP (w:=w) (h.block k hl hk)
def Own(cl:Nat->Nat)(c:Nat)(w:World)(e:TypeId)(size:Nat)(v:Value)(n:Nat)(xs:List Value):Prop:=
 w.ownsRow 0 e size v n xs/\∀g,v.ownBlock=some g->g<w.heap.size/\cl g=c
section
variable{c:Nat}{e:TypeId}{size n:Nat}{v:Value}{xs:List Value}
theorem cO(h:w.ownsRow 0 e size v n xs){g:Nat}(hg:v.ownBlock=some g):g<w.heap.size:=by
 rcases h.2 with⟨rfl,-⟩|⟨g',cap,cur,rfl,-,h2,-⟩
 .cases hg
 .have:g'=g:=by simpa [Value.ownBlock] using hg
  subst this;rcases XAc g' w.heap.size with hlt|hge
  .exact hlt
  .rw [XAz hge] at h2;cases h2
theorem cM(h:w.ownsRow 0 e size v n xs)(hs:∀g,v.ownBlock=some g->w'.heap[g]? =w.heap[g]?):w'.ownsRow 0 e size v n xs:=by
 obtain⟨h1,h2⟩:=h;refine⟨h1,?_⟩;rcases h2 with h2|⟨g,cap,cur,rfl,h4,h5,h6⟩
 .exact .inl h2
 .exact .inr ⟨g,cap,cur,R,h4,(hs g R).trans h5,h6⟩
theorem Own.nil(cl:Nat->Nat)(c:Nat)(w:World)(e:TypeId)(size:Nat):Own cl c w e size (.slice none 0 0) 0 []:=⟨⟨ql,.inl ⟨R,R⟩⟩,λg hg=>qce⟩
theorem Own.md(h:Own cl c w e size v n xs)(hm:Md cl js w w')(hc:c∉js):Own cl c w' e size v n xs:=
 ⟨cM h.1 λg hg=>hm.block g (h.2 g hg).1 (by rw [(h.2 g hg).2];exact hc),λg hg=>⟨XAH (h.2 g hg).1 hm.size,(h.2 g hg).2⟩⟩
theorem Own.below(h:Own cl c w e size v n xs)(hb:Below w w w'):Own cl c w' e size v n xs:=
 ⟨cM h.1 λg hg=>hb.block g (h.2 g hg).1,λg hg=>⟨XAH (h.2 g hg).1 hb.size,(h.2 g hg).2⟩⟩
theorem Own.cls(h:Own cl c w e size v n xs)(he:∀k,k<w.heap.size->aD k=cl k):Own aD c w e size v n xs:=⟨h.1,λg hg=>⟨(h.2 g hg).1,(he g (h.2 g hg).1).trans (h.2 g hg).2⟩⟩
end
end
section
variable{w w':World}
theorem Reads.lit(w:World)(e:TypeId)(cs:Array Value)(n size:Nat)(h:cs.size=n*size):Reads (w.alloc (.cells cs e)) (w.alloc (.cells cs e)).heap.size size (some ⟨w.heap.size,0,none⟩) n cs.toList:=
 ⟨qjy,λ_=>⟨_,R,ql,λj u hu=>by
  have:(⟨w.heap.size,0,none⟩:Addr).add j=⟨w.heap.size,j,none⟩:=qib
  rw [this,(ak.new w e cs).cell,<-XBO];exact hu⟩⟩
theorem Reads.own{e:TypeId}{size n c:Nat}{A:Option Addr}{xs:List Value}(h:w.ownsRow 0 e size (.slice A n c) n xs):Reads w w.heap.size size A n xs:=Reads.gj h
theorem iW{P:Program}{e:TypeId}{z:Value}{size bytes:Nat}(hinfo:(P.info? e).map (λi=>(i.zero,i.size,i.bytes))=some (some z,size,bytes))(hzs:z.cells.size=size)(hsz:0<size)
 {ops:Array Oper}{rest:List Oper}{o:Oper}{a:Act}{Q:Exit->Act->World->Prop}{t:TypeId}(ht:P.underlying t=some (.slice e))(hgd:o.guard=none)(s x:Operand)
 (ho:o.op=.call { callee:=.builtin .append,args:=#[s,x],argTypes:=#[t,t] })(v:Value)(n:Nat)(xs:List Value)(hs:a.eval s=v)(hown:w.ownsRow 0 e size v n xs)
 (A:Option Addr)(m c:Nat)(news:List Value)(hx:a.eval x=.slice A m c)(hr:Reads w w.heap.size size A m news)(h1:∀u∈news,u.oneCell'=true)(hm:n+m<=1000000)(hbytes:bytes<=1000)(h0:0<n+m)
 (h:∀(g cap:Nat)(w':World),w'.ownsRow 0 e size (.slice (g,0) (n+m) cap) (n+m) (xs++news)->w.grownBy w' v.ownBlock->(some g=v.ownBlock\/g=w.heap.size)->wpList P ops Q rest (a.put o.dst (.slice (g,0) (n+m) cap)) w'):wpList P ops Q (o::rest) a w:=by
 obtain⟨i0,I0,I1,I2,I3⟩:=XA4 hinfo;refine uE w hgd s x t ho 0 e i0 z size bytes ht I0 I1 I2 I3 hzs hsz v n xs hs hown w.heap.size A m c news hx hr h1 qw (XAL (XDm hm hbytes) qf) (XAJ _) λv' w' h2 h3 h4=>?_;obtain⟨k,hk⟩:∃k,n+m=k+1:=⟨n+m-1,qd⟩;rw [hk] at h2;obtain⟨g,cap,rfl⟩:=ownsRow_succ h2;rw [<-hk] at h2 ⊢;exact h g cap w' h2 h3 (h4.imp (λe=>e) λe=>qfh)
end
section
open Go.Shelf Go.RowKit
def lays107_ren:Go.Shelf.Ren:=⟨λ|107=>54|108=>70|n=>n,λ|28=>25|3=>3|4=>4|0=>0|n=>n,λ|n=>n⟩
theorem lays107:Go.Proofs.Lays.n107 prog lays107_ren:= {
 mixed:=qh
 f107:=func54.trans (XAK some qh)
 f108:=func70.trans (XAK some qh)
 t0:=XBa
 a0:=XBb
 z0:=XBc
 v0:=XBd
 t3:=XAW
 a3:=XBI
 z3:=XBJ
 v3:=XBT
 t4:=XAy
 a4:=XA6
 z4:=XA7
 v4:=XA8
 t28:=XBl
 a28:=XC5
 z28:=XC6
 v28:=XDn }
open Go.Lib in
theorem slices_Contains_int(b off n c:Nat)(zs:List Int)(x:Int)(w:World)(hz:n<=zs.length)(hbig:n<=9223372036854775807)(hc:∀j,j<zs.length->w.cell? (b,off+j)=I (zs.getD j 0)):
  Z 54 #[.slice (b,off) n c,I x] w λe w'=>e=.returned (.bool ((zs.take n).contains x))/\w'=w:=Any.slices_Contains_int lays107 b off n c zs x w hz hbig hc
open Go.Lib in
theorem slices_Contains_int_empty(a:Option Addr)(c:Nat)(x:Int)(w:World):
  Z 54 #[.slice a 0 c,I x] w λe w'=>e=.returned (.bool false)/\w'=w:=Any.slices_Contains_int_empty lays107 a c x w
def YN:Go.Shelf.Ren:=⟨λ|15=>21|n=>n,λ|22=>25|3=>3|4=>4|n=>n,λ|n=>n⟩
theorem laysNm215:Go.Proofs.Lays2.n15 prog YN:= {
 mixed:=qh
 f15:=func21.trans (XAK some qh)
 t3:=XAW
 a3:=XBI
 z3:=XBJ
 v3:=XBT
 t4:=XAy
 a4:=XA6
 z4:=XA7
 v4:=XA8
 t22:=XBl
 a22:=XC5
 z22:=XC6
 v22:=XDn
 i3:=qh }
open Go.Lib in
theorem slices_Clone_int(b off n c:Nat)(zs:List Int)(w:World)(hz:n<=zs.length)(hbig:n*8<=140737488355328)(hc:∀j,j<zs.length->w.cell? (b,off+j)=I (zs.getD j 0)):
  Z 21 #[.slice (b,off) n c] w λe w'=>∃v',e=.returned v'/\w'.ownsRow w.heap.size 3 1 v' n ((zs.take n).map (Value.int .i64))/\v'≠ .slice none 0 0/\Below w w w':=Any.slices_Clone_int laysNm215 b off n c zs w hz hbig hc
open Go.Lib in
theorem slices_Clone_int_nil(n c:Nat)(w:World):
  Z 21 #[.slice none n c] w λe w'=>e=.returned (.slice none 0 0)/\w'=w:=Any.slices_Clone_int_nil laysNm215 n c w
def YP:Go.Shelf.Ren:=⟨λ|25=>216|31=>271|32=>272|37=>332|n=>n,λ|22=>25|3=>3|4=>4|40=>108|0=>0|n=>n,λ|n=>n⟩
theorem YO:Go.Proofs.Lays2.n25 prog YP:= {
 mixed:=qh
 f25:=func216.trans (XAK some qh)
 f31:=func271.trans (XAK some qh)
 f32:=func272.trans (XAK some qh)
 f37:=func332.trans (XAK some qh)
 t0:=XBa
 a0:=XBb
 z0:=XBc
 v0:=XBd
 t3:=XAW
 a3:=XBI
 z3:=XBJ
 v3:=XBT
 t4:=XAy
 a4:=XA6
 z4:=XA7
 v4:=XA8
 t22:=XBl
 a22:=XC5
 z22:=XC6
 v22:=XDn
 t40:=underlying108
 a40:=isAgg108
 z40:=sizeOf108
 v40:=zeroValue108 }
open Go.Lib in
theorem slices_BinarySearch_int(b off n c:Nat)(zs:List Int)(x:Int)(w:World)(hz:n<=zs.length)(hbig:n<4611686018427387904)(hc:∀j,j<zs.length->w.cell? (b,off+j)=I (zs.getD j 0))(hs:(zs.take n).Pairwise (·<= ·)):
  Z 216 #[.slice (b,off) n c,I x] w λe w'=>e=.returned (.tuple #[I ((zs.take n).countP (·<x):Nat),.bool ((zs.take n).contains x)])/\∃q,w'=w.drewN q:=Any.slices_BinarySearch_int YO b off n c zs x w hz hbig hc hs
def abn:Go.Shelf.Ren:=⟨λ|41=>22|n=>n,λ|22=>64|23=>63|4=>4|n=>n,λ|n=>n⟩
theorem acL:Go.Proofs.SlLaysE0.n41 prog abn:= {
 mixed:=qh
 f41:=⟨f22.name,qf,func22.trans (XAK some qh)⟩
 t4:=XAy
 a4:=XA6
 z4:=XA7
 v4:=XA8
 t22:=XEe
 a22:=isAgg64
 z22:=sizeOf64
 v22:=zeroValue64 }
def abo:Go.Shelf.Ren:=⟨λ|41=>38|n=>n,λ|22=>54|23=>68|4=>4|n=>n,λ|n=>n⟩
theorem acM:Go.Proofs.SlLaysE0.n41 prog abo:= {
 mixed:=qh
 f41:=⟨f38.name,qf,func38.trans (XAK some qh)⟩
 t4:=XAy
 a4:=XA6
 z4:=XA7
 v4:=XA8
 t22:=XC7
 a22:=isAgg54
 z22:=sizeOf54
 v22:=XEf }
def abp:Go.Shelf.Ren:=⟨λ|41=>39|n=>n,λ|22=>56|23=>107|4=>4|n=>n,λ|n=>n⟩
theorem acN:Go.Proofs.SlLaysE0.n41 prog abp:= {
 mixed:=qh
 f41:=⟨f39.name,qf,func39.trans (XAK some qh)⟩
 t4:=XAy
 a4:=XA6
 z4:=XA7
 v4:=XA8
 t22:=underlying56
 a22:=isAgg56
 z22:=sizeOf56
 v22:=zeroValue56 }
def abt:Go.Shelf.Ren:=⟨λ|41=>49|n=>n,λ|22=>93|23=>98|4=>4|n=>n,λ|n=>n⟩
theorem acP:Go.Proofs.SlLaysE0.n41 prog abt:= {
 mixed:=qh
 f41:=⟨f49.name,qf,func49.trans (XAK some qh)⟩
 t4:=XAy
 a4:=XA6
 z4:=XA7
 v4:=XA8
 t22:=XEg
 a22:=isAgg93
 z22:=sizeOf93
 v22:=zeroValue93 }
def abr:Go.Shelf.Ren:=⟨λ|8=>44|6=>66|n=>n,λ|22=>25|23=>3|25=>99|4=>4|3=>3|0=>0|n=>n,λ|n=>n⟩
theorem D1:Go.Proofs.SlLaysH.n8 prog abr:= {
 mixed:=qh
 f6:=⟨f66.name,qf,func66.trans (XAK some qh)⟩
 f8:=⟨f44.name,qf,func44.trans (XAK some qh)⟩
 t0:=XBa
 a0:=XBb
 z0:=XBc
 v0:=XBd
 t3:=XAW
 a3:=XBI
 z3:=XBJ
 v3:=XBT
 t4:=XAy
 a4:=XA6
 z4:=XA7
 v4:=XA8
 t22:=XBl
 a22:=XC5
 z22:=XC6
 v22:=XDn
 a23:=XBI
 z23:=XBJ
 t25:=underlying99
 a25:=isAgg99
 z25:=sizeOf99
 v25:=zeroValue99 }
def abu:Go.Shelf.Ren:=⟨λ|8=>52|6=>69|n=>n,λ|22=>142|23=>25|25=>146|4=>4|3=>3|0=>0|n=>n,λ|n=>n⟩
theorem acQ:Go.Proofs.SlLaysH.n8 prog abu:= {
 mixed:=qh
 f6:=⟨f69.name,qf,func69.trans (XAK some qh)⟩
 f8:=⟨f52.name,qf,func52.trans (XAK some qh)⟩
 t0:=XBa
 a0:=XBb
 z0:=XBc
 v0:=XBd
 t3:=XAW
 a3:=XBI
 z3:=XBJ
 v3:=XBT
 t4:=XAy
 a4:=XA6
 z4:=XA7
 v4:=XA8
 t22:=underlying142
 a22:=isAgg142
 z22:=sizeOf142
 v22:=zeroValue142
 a23:=XC5
 z23:=XC6
 t25:=underlying146
 a25:=isAgg146
 z25:=sizeOf146
 v25:=zeroValue146 }
def aaX:Go.Shelf.Ren:=⟨λ|6=>171|n=>n,λ|22=>53|23=>196|25=>278|3=>3|0=>0|4=>4|n=>n,λ|n=>n⟩
theorem Lz:Go.Proofs.SlLaysH.n6 prog aaX:= {
 mixed:=qh
 f6:=⟨f171.name,qf,func171.trans (XAK some qh)⟩
 t0:=XBa
 a0:=XBb
 z0:=XBc
 v0:=XBd
 t3:=XAW
 a3:=XBI
 z3:=XBJ
 v3:=XBT
 t4:=XAy
 a4:=XA6
 z4:=XA7
 v4:=XA8
 t22:=underlying53
 a22:=isAgg53
 z22:=sizeOf53
 v22:=zeroValue53
 a23:=isAgg196
 z23:=sizeOf196
 t25:=underlying278
 a25:=isAgg278
 z25:=sizeOf278
 v25:=zeroValue278 }
def abq:Go.Shelf.Ren:=⟨λ|8=>41|6=>65|n=>n,λ|22=>64|23=>63|25=>111|4=>4|3=>3|0=>0|n=>n,λ|n=>n⟩
theorem acO:Go.Proofs.SlLaysH0.n8 prog abq:= {
 mixed:=qh
 f6:=⟨f65.name,qf,func65.trans (XAK some qh)⟩
 f8:=⟨f41.name,qf,func41.trans (XAK some qh)⟩
 t0:=XBa
 a0:=XBb
 z0:=XBc
 v0:=XBd
 t3:=XAW
 a3:=XBI
 z3:=XBJ
 v3:=XBT
 t4:=XAy
 a4:=XA6
 z4:=XA7
 v4:=XA8
 t22:=XEe
 a22:=isAgg64
 z22:=sizeOf64
 v22:=zeroValue64
 t25:=underlying111
 a25:=isAgg111
 z25:=sizeOf111
 v25:=zeroValue111 }
def abv:Go.Shelf.Ren:=⟨λ|8=>96|6=>138|n=>n,λ|22=>93|23=>98|25=>201|4=>4|3=>3|0=>0|n=>n,λ|n=>n⟩
theorem acR:Go.Proofs.SlLaysH0.n8 prog abv:= {
 mixed:=qh
 f6:=⟨f138.name,qf,func138.trans (XAK some qh)⟩
 f8:=⟨f96.name,qf,func96.trans (XAK some qh)⟩
 t0:=XBa
 a0:=XBb
 z0:=XBc
 v0:=XBd
 t3:=XAW
 a3:=XBI
 z3:=XBJ
 v3:=XBT
 t4:=XAy
 a4:=XA6
 z4:=XA7
 v4:=XA8
 t22:=XEg
 a22:=isAgg93
 z22:=sizeOf93
 v22:=zeroValue93
 t25:=underlying201
 a25:=isAgg201
 z25:=sizeOf201
 v25:=zeroValue201 }
def aaY:Go.Shelf.Ren:=⟨λ|6=>174|n=>n,λ|22=>54|23=>68|25=>280|3=>3|0=>0|4=>4|n=>n,λ|n=>n⟩
theorem acz:Go.Proofs.SlLaysH0.n6 prog aaY:= {
 mixed:=qh
 f6:=⟨f174.name,qf,func174.trans (XAK some qh)⟩
 t0:=XBa
 a0:=XBb
 z0:=XBc
 v0:=XBd
 t3:=XAW
 a3:=XBI
 z3:=XBJ
 v3:=XBT
 t4:=XAy
 a4:=XA6
 z4:=XA7
 v4:=XA8
 t22:=XC7
 a22:=isAgg54
 z22:=sizeOf54
 v22:=XEf
 t25:=underlying280
 a25:=isAgg280
 z25:=sizeOf280
 v25:=zeroValue280 }
def aaZ:Go.Shelf.Ren:=⟨λ|8=>178|6=>174|n=>n,λ|22=>54|23=>68|25=>280|4=>4|3=>3|0=>0|n=>n,λ|n=>n⟩
theorem acA:Go.Proofs.SlLaysH0.n8 prog aaZ:= {
 mixed:=qh
 f6:=⟨f174.name,qf,func174.trans (XAK some qh)⟩
 f8:=⟨f178.name,qf,func178.trans (XAK some qh)⟩
 t0:=XBa
 a0:=XBb
 z0:=XBc
 v0:=XBd
 t3:=XAW
 a3:=XBI
 z3:=XBJ
 v3:=XBT
 t4:=XAy
 a4:=XA6
 z4:=XA7
 v4:=XA8
 t22:=XC7
 a22:=isAgg54
 z22:=sizeOf54
 v22:=XEf
 t25:=underlying280
 a25:=isAgg280
 z25:=sizeOf280
 v25:=zeroValue280 }
def aa0:Go.Shelf.Ren:=⟨λ|8=>180|6=>218|n=>n,λ|22=>55|23=>159|25=>288|4=>4|3=>3|0=>0|n=>n,λ|n=>n⟩
theorem acB:Go.Proofs.SlLaysH0.n8 prog aa0:= {
 mixed:=qh
 f6:=⟨f218.name,qf,func218.trans (XAK some qh)⟩
 f8:=⟨f180.name,qf,func180.trans (XAK some qh)⟩
 t0:=XBa
 a0:=XBb
 z0:=XBc
 v0:=XBd
 t3:=XAW
 a3:=XBI
 z3:=XBJ
 v3:=XBT
 t4:=XAy
 a4:=XA6
 z4:=XA7
 v4:=XA8
 t22:=underlying55
 a22:=isAgg55
 z22:=sizeOf55
 v22:=zeroValue55
 t25:=underlying288
 a25:=isAgg288
 z25:=sizeOf288
 v25:=zeroValue288 }
end
theorem nZ{P:Program}(t e:TypeId)(z:Value)(bytes size:Nat)(ht:P.underlying t=some (.slice e))(hinfo:(P.info? e).map (λi=>(i.zero,i.size,i.bytes))=some (some z,size,bytes))
 (kl kc:IntKind)(n:Nat)(hbytes:bytes*n<=281474976710656)(h63:n<=9223372036854775807)(w:World):
  (Instr.makeSlice t (.int kl (n:Int)) (.int kc (n:Int))).run P w=.ok (.slice (w.heap.size,0) n n) (w.alloc (.cells (madeCells z.cells (n*size)) e)):=by
 obtain⟨i,hi,hzz⟩:=XEh.1 hinfo;simp only [XDo] at hzz;obtain⟨hz,hs,hb⟩:=hzz;have hb':(i.bytes:Int)*(n:Int)<=281474976710656:=by
  have h:((i.bytes*n:Nat):Int)<=281474976710656:=by rw [hb];omega
  rwa [XEU] at h
 have hr:=run_make (P:=P) w t e i z ht hi hz kl kc n n qd (XBG _) hb' qd;simp only [XBQ,hs] at hr;exact hr
theorem ug{z:Array Value}{n j:Nat}(h:j<n)(hz:0<z.size):(madeCells z n)[j]? =some (z[j % z.size]'(XAj _ hz)):=by
 have h1:j % z.size<z.size:=XAj _ hz;simp [madeCells,h,h1]
abbrev Blocks:=Nat->Prop
structure Mod(S:Blocks)(w w':World):Prop where
 os:w'.os=w.os
 tape:w'.tape=w.tape
 output:w'.output=w.output
 size:w.heap.size<=w'.heap.size
 block:∀k,k<w.heap.size->¬S k->w'.heap[k]? =w.heap[k]?
section
variable{S S':Blocks}{w w' w'':World}
theorem Mod.refl(S:Blocks)(w:World):Mod S w w:=⟨R,R,R,XAB _,λ_ _ _=>rfl⟩
theorem Mod.of_below(h:Below w w w'):Mod S w w':=⟨h.os,h.tape,h.output,h.size,λk hk _=>h.block k hk⟩
theorem Mod.pO{gs:List Nat}(h:Rws gs w w')(hs:∀g∈gs,S g):Mod S w w':=⟨h.os,h.tape,h.output,h.size,λk hk h1=>h.block k hk λh2=>h1 (hs k h2)⟩
theorem Mod.mono(h:Mod S w w')(hs:∀k,k<w.heap.size->S k->S' k):Mod S' w w':=⟨h.os,h.tape,h.output,h.size,λk hk h1=>h.block k hk λh2=>h1 (hs k hk h2)⟩
theorem Mod.trans(h:Mod S w w')(h':Mod S' w' w'')(hs:∀k,k<w.heap.size->S' k->S k):Mod S w w'':=
 ⟨h'.os.trans h.os,h'.tape.trans h.tape,h'.output.trans h.output,XAL h.size h'.size,λk hk h1=>(h'.block k (XAH hk h.size) λh2=>h1 (hs k hk h2)).trans (h.block k hk h1)⟩
theorem Mod.set(h:Mod S w w'){p:Addr}(hp:S p.block)(u:Value):Mod S w (w'.setCell p u):=
 ⟨h.os,h.tape,h.output,qbj,λk hk h1=>(XAN w' p u k (λe=>h1 (by rw [e];exact hp))).trans (h.block k hk h1)⟩
theorem Mod.far(h:Mod S w w'){p:Addr}(hp:w.heap.size<=p.block)(u:Value):Mod S w (w'.setCell p u):=
 ⟨h.os,h.tape,h.output,qbj,λk hk h1=>(XAN w' p u k qd).trans (h.block k hk h1)⟩
theorem Mod.drew(h:Mod S w w'):Mod S w w'.drew:=⟨h.os,h.tape,h.output,h.size,h.block⟩
theorem Mod.alloc(h:Mod S w w')(o:Obj):Mod S w (w'.alloc o):=h.trans (Mod.of_below (S:=S) ((XAC _ _).alloc (XAB _) _)) λ_ _ h=>h
theorem Mod.eZ(h:Mod S w w')(hb:Below w' w' w''):Mod S w w'':=h.trans (Mod.of_below (S:=S) hb) λ_ _ h=>h
theorem Mod.below{B:Nat}(h:Mod S w w')(hs:∀k,k<B->¬S k)(hB:B<=w.heap.size):Below B w w':=⟨h.os,h.tape,h.output,h.size,λk hk=>h.block k qd (hs k hk)⟩
theorem Mod.cell(h:Mod S w w'){p:Addr}{v:Value}(hs:¬S p.block)(hc:w.cell? p=some v):w'.cell? p=some v:=
 (XAP (w:=w) (h.block _ (XCQ w p hc) hs)).trans hc
end
def bM(n:Nat)(F:Nat->List Value):List Value:=(List.range n).flatMap F
section
variable{m n:Nat}{F:Nat->List Value}
theorem vE(n:Nat)(F:Nat->List Value):bM (n+1) F=bM n F++F n:=by
 unfold bM;rw [XBz,XCJ];simp
theorem oZ(hm:∀i,(F i).length=m):∀n,(bM n F).length=n*m
 |0=>by simp [bM]
 |n+1=>by rw [vE,XAZ,oZ hm n,hm,XCK]
theorem kN(hm:∀i,(F i).length=m):∀(n k j:Nat),k<n->j<m->(bM n F)[k*m+j]? =(F k)[j]?
 |0,k,j,h,_=>absurd h (XC_ k)
 |n+1,k,j,h,hj=>by
  have hl:=oZ hm n;rw [vE];rcases (by omega:k<n\/k=n) with h1|h1
  .have h2:k*m+m<=n*m:=by rw [<-XCK];exact XED m h1
   rw [XB0 qd];exact kN hm n k j h1 hj
  .subst h1;rw [XBy qd,hl,Nat.add_sub_cancel_left]
theorem Iu{G:Nat->List Value} :∀{n:Nat},(∀i,i<n->F i=G i)->bM n F=bM n G
 |0,_=>rfl
 |n+1,h=>by rw [vE,vE,Iu λi hi=>h i qd,h n qd]
theorem nJ(hm:∀i,(F i).length=m){G:Nat->List Value}(hg:∀i,(G i).length=m){k j:Nat}{v:Value}(hk:k<n)(hj:j<m)(h1:G k=(F k).set j v)(h2:∀i,i<n->i≠k->G i=F i):
  (bM n F).set (k*m+j) v=bM n G:=by
 apply XA5;intro i;rw [XBm];have hm0:0<m:=qd
 by_cases hi:i<n*m
 .have hq:i / m<n:=(Nat.div_lt_iff_lt_mul hm0).2 hi;have hr:i % m<m:=XAj _ hm0;have ei:i=i / m*m+i % m:=by rw [XBL];exact(XEB i m).symm
  have g1:=kN hg n (i / m) (i % m) hq hr;have f1:=kN hm n (i / m) (i % m) hq hr;rw [<-ei] at g1 f1;rw [g1,f1,oZ hm];by_cases e:k*m+j=i
  .have ek:i / m=k:=by rw [<-e,XBL,Nat.mul_add_div hm0,XEC hj];rfl
   have ej:i % m=j:=by rw [<-e,XBL,Nat.mul_add_mod,XCn hj]
   rw [XAE e,XAE qd,ek,ej,h1,XDA (by rw [hm];exact hj)]
  .rw [XAD e];by_cases ek:i / m=k
   .have ej:i % m≠j:=λej=>e (by rw [ei,ek,ej]);rw [ek,h1,List.getElem?_set_ne qd]
   .rw [h2 _ hq ek]
 .have h3:k*m+m<=n*m:=by rw [<-XCK];exact XED m hk
  rw [XAD qd,XAd (by rw [oZ hm];omega),XAd (by rw [oZ hg];omega)]
end
section
open Go
section
variable{P:Program}{ops:Array Oper}{Q:Exit->Act->World->Prop}{md:Region.Mode}{S:World->Prop}{z:Nat}
def jt(P:Program)(md:Region.Mode)(ops:Array Oper)(Q:Exit->Act->World->Prop)(S:World->Prop)(z:Nat):Nat->Array Bool->Act->World->Prop
 |0,l,a,w=>Region.ready md ops l= []/\Q .normal a w
 |fuel+1,l,a,w=>(Region.ready md ops l= []->Q .normal a w)/\
  ∀i∈Region.ready md ops l,wpOp P ops Q i (λa' w'=>(l.getD z false=false->i≠z->S w')/\jt P md ops Q S z fuel (l.setIfInBounds i true) a' w') a w
theorem Me:∀(fuel:Nat)(l:Array Bool)(a:Act)(w:World),jt P md ops Q S z fuel l a w->wpAny P md ops Q fuel l a w
 |0,_,_,_,h=>h
 |fuel+1,_,_,_,h=>⟨h.1,λi hi=>XCs (λa' w' h'=>Me fuel _ a' w' h'.2) (h.2 i hi)⟩
def sR(md:Region.Mode)(ops:Array Oper)(l:Array Bool):Prop:=∀j oj,ops[j]? =some oj->l.getD j false=true->∀e∈oj.after,Region.binds md e=true->l.getD e.on false=true
def ve(md:Region.Mode)(ops:Array Oper)(i:Nat):Nat->Nat->Bool
 |0,_=>false
 |f+1,z=>Region.waitsFor md ops z i||(List.range ops.size).any λj=>Region.waitsFor md ops z j && ve md ops i f j
theorem Bo{i:Nat}{l:Array Bool}(hc:sR md ops l):∀{f z:Nat},ve md ops i f z=true->(∀oz,ops[z]? =some oz->∀e∈oz.after,Region.binds md e=true->l.getD e.on false=true)->l.getD i false=true
 |0,_,h,_=>qck
 |f+1,z,h,hz=>by
  unfold ve at h;simp only [Bool.or_eq_true,XCI,XAt] at h;rcases h with h|⟨j,-,h1,h2⟩
  .obtain⟨oz,ho,e,he,hb,rfl⟩:=Region.waitsFor_spec h;exact hz oz ho e he hb
  .obtain⟨oz,ho,e,he,hb,rfl⟩:=Region.waitsFor_spec h1;exact Bo hc h2 λoj hj'=>hc _ oj hj' (hz oz ho e he hb)
theorem sR.set{l:Array Bool}(h:sR md ops l){j:Nat}(hj:j∈Region.ready md ops l):sR md ops (l.setIfInBounds j true):=λk ok hk hl e he hb=>by
 by_cases e1:j=k
 .subst e1;obtain⟨-,o,ho,hall⟩:=XB_.1 hj;rw [hk] at ho;injection ho with ho;subst ho;exact getD_set_true (hall e he hb)
 .rw [XCP false e1] at hl;exact getD_set_true (h k ok hk hl e he hb)
theorem Is{l:Array Bool}{i:Nat}(h:l.getD i true=false):l.getD i false=false:=by
 rcases XAc i l.size with h'|h'
 .simp [h'] at h ⊢;exact h
 .simp [XAz h'] at h
theorem aaq{i:Nat}{oi:Oper}{v:Value}{F:Nat}(hi:ops[i]? =some oi)(hsel:∀(j:Nat)(o:Oper) cs b,ops[j]? =some o->o.op≠ .select cs b)
 (hQ:∀c a w,Q (.panic c) (a.put oi.dst v) w->Q (.panic c) a w)(IK:ve md ops i F z=true):
  ∀(fuel:Nat)(l:Array Bool)(a:Act)(w:World),
   (∀j oj,ops[j]? =some oj->j≠i->l.getD j true=false->(∀e∈oj.after,Region.binds md e=true->e.on≠i)->oi.apart ops oj=true)->
   sR md ops l->l.getD z false=false->i∈Region.ready md ops l->YieldsIf P ops S oi v a->S w->
   jt P md ops Q S z fuel (l.setIfInBounds i true) (a.put oi.dst v) w->jt P md ops Q S z (fuel+1) l a w:=by
 intro fuel;induction fuel with
 |zero=>
  intro l a w _ _ _ hr hy hS H;refine⟨λh=>qij,λj hj=>?_⟩;by_cases hji:j=i
  .subst hji;exact hy.wpOp hi hS ⟨λ_ _=>hS,H⟩
  .have:=XCm hj hji;rw [H.1] at this;cases this
 |succ fuel ih=>
  intro l a w hfree hcl hzl hr hy hS H;refine⟨λh=>qij,λj hj=>?_⟩;by_cases hji:j=i
  .subst hji;exact hy.wpOp hi hS ⟨λ_ _=>hS,H⟩
  .have h1:=H.2 j (XCm hj hji);obtain⟨hjun,oj,hoj,hall⟩:=XB_.1 hj;have hiu:=Is (XB_.1 hr).1;have hjz:j≠z:=λe=>by
    subst e;have:=Bo hcl IK λoz ho=>by rw [hoj] at ho;injection ho with ho;subst ho;exact hall
    rw [hiu] at this;cases this
   have hzi:i≠z:=λe=>by
    subst e;have:=Bo hcl IK λoz ho=>by obtain⟨-,o,ho',hall'⟩:=XB_.1 hr;rw [ho] at ho';injection ho' with ho';subst ho';exact hall'
    rw [hiu] at this;cases this
   have hnot:∀e∈oj.after,Region.binds md e=true->e.on≠i:=λe he hb heq=>by have h1:=hall e he hb;rw [heq,hiu] at h1;cases h1
   have h2:=wpOp_putIf hoj (hfree j oj hoj hji hjun hnot) (λcs b=>hsel i oi cs b hi) (λcs b=>hsel j oj cs b hoj) hQ hy h1;have hfree':∀k ok,ops[k]? =some ok->k≠i->(l.setIfInBounds j true).getD k true=false->
     (∀e∈ok.after,Region.binds md e=true->e.on≠i)->oi.apart ops ok=true:=λk ok hk hki hun hno=>by
    refine hfree k ok hk hki ?_ hno;by_cases hjk:j=k
    .subst hjk;exact hjun
    .rw [XCP true hjk] at hun;exact hun
   refine XCs (λa' w' h3=>?_) h2;have hS':S w':=h3.2.1 (by rw [XCP false hzi];exact hzl) hjz;refine⟨λ_ _=>hS',ih (l.setIfInBounds j true) a' w' hfree' (hcl.set hj) (by rw [XCP false hjz];exact hzl) (XCm hr (Ne.symm hji)) h3.1 hS' ?_⟩;rw [Array.setIfInBounds_comm _ _ hji];exact h3.2.2
theorem Vn{l:Array Bool}{i:Nat}(h:l.getD i true=false):(l.setIfInBounds i true).getD i false=true:=by
 rcases XAc i l.size with h'|h'
 .simp [h']
 .simp [XAz h'] at h
theorem aaA{i:Nat}{oi:Oper}{v:Value}(hi:ops[i]? =some oi)(hsel:∀(j:Nat)(o:Oper) cs b,ops[j]? =some o->o.op≠ .select cs b)
 (hQ:∀c a w,Q (.panic c) (a.put oi.dst v) w->Q (.panic c) a w):
  ∀(fuel:Nat)(l:Array Bool)(a:Act)(w:World),
   (∀j oj,ops[j]? =some oj->j≠i->l.getD j true=false->(∀e∈oj.after,Region.binds md e=true->e.on≠i)->oi.apart ops oj=true)->
   i∈Region.ready md ops l->YieldsIf P ops (λ_=>True) oi v a->(l.getD z false=false->S w)->i≠z->
   jt P md ops Q S z fuel (l.setIfInBounds i true) (a.put oi.dst v) w->jt P md ops Q S z (fuel+1) l a w:=by
 intro fuel;induction fuel with
 |zero=>
  intro l a w _ hr hy hS _ H;refine⟨λh=>qij,λj hj=>?_⟩;by_cases hji:j=i
  .subst hji;exact hy.wpOp hi trivial ⟨λh _=>hS h,H⟩
  .have:=XCm hj hji;rw [H.1] at this;cases this
 |succ fuel ih=>
  intro l a w hfree hr hy hS hiz H;refine⟨λh=>qij,λj hj=>?_⟩;by_cases hji:j=i
  .subst hji;exact hy.wpOp hi trivial ⟨λh _=>hS h,H⟩
  .have h1:=H.2 j (XCm hj hji);obtain⟨hjun,oj,hoj,hall⟩:=XB_.1 hj;have hiu:=Is (XB_.1 hr).1;have hnot:∀e∈oj.after,Region.binds md e=true->e.on≠i:=λe he hb heq=>by
    have h1:=hall e he hb;rw [heq,hiu] at h1;cases h1
   have h2:=wpOp_putIf hoj (hfree j oj hoj hji hjun hnot) (λcs b=>hsel i oi cs b hi) (λcs b=>hsel j oj cs b hoj) hQ hy h1;have hfree':∀k ok,ops[k]? =some ok->k≠i->(l.setIfInBounds j true).getD k true=false->
     (∀e∈ok.after,Region.binds md e=true->e.on≠i)->oi.apart ops ok=true:=λk ok hk hki hun hno=>by
    refine hfree k ok hk hki ?_ hno;by_cases hjk:j=k
    .subst hjk;exact hjun
    .rw [XCP true hjk] at hun;exact hun
   refine XCs (λa' w' h3=>?_) h2;have hS':l.getD z false=false->j≠z->S w':=λh0 hjz=>h3.2.1 (by rw [XCP false hiz];exact h0) hjz;refine⟨hS',ih (l.setIfInBounds j true) a' w' hfree' (XCm hr (Ne.symm hji)) h3.1 (λh0=>?_) hiz ?_⟩
   .by_cases hjz:j=z
    .subst hjz;rw [Vn hjun] at h0;cases h0
    .rw [XCP false hjz] at h0;exact hS' h0 hjz
   .rw [Array.setIfInBounds_comm _ _ hji];exact h3.2.2
def Ld(md:Region.Mode)(ops:Array Oper)(l:Array Bool)(z i:Nat):Bool:=Region.noSelect ops && (Region.free md ops l i && ((Region.ready md ops l).contains i && !(i==z)))
theorem aaz{i:Nat}{oi:Oper}{v:Value}{fuel:Nat}{l:Array Bool}{a:Act}{w:World}(hi:ops[i]? =some oi)(hb:Ld md ops l z i=true)
 (hQ:∀c a w,Q (.panic c) (a.put oi.dst v) w->Q (.panic c) a w)(hy:YieldsIf P ops (λ_=>True) oi v a)(hS:S w)
 (h:jt P md ops Q S z fuel (l.setIfInBounds i true) (a.put oi.dst v) w):jt P md ops Q S z (fuel+1) l a w:=by
 unfold Ld at hb;simp only [XAt,XEK,XAf] at hb;obtain⟨h1,h2,h3,h4⟩:=hb;exact aaA hi (Region.noSelect_spec h1) hQ fuel l a w (Region.free_spec hi h2) qkq hy (λ_=>hS) h4 h
def BU(md:Region.Mode)(ops:Array Oper)(l:Array Bool):Bool:=(List.range ops.size).all λj=>match ops[j]? with
 |some oj=> !l.getD j false||oj.after.all λe=> !Region.binds md e||l.getD e.on false
 |none=>true
theorem RV{l:Array Bool}(h:BU md ops l=true):sR md ops l:=λj oj hj hl e he hb=>by
 unfold BU at h;have h1:=XBu.1 h j (XAu.2 (XDQ.1 hj).1);rw [hj] at h1;simp only [hl,XCS,Bool.false_or] at h1;have h2:=XB8.1 h1 e he;simpa [hb] using h2
def LN(md:Region.Mode)(ops:Array Oper)(l:Array Bool)(z i:Nat):Bool:=
 Region.noSelect ops && (Region.free md ops l i && ((Region.ready md ops l).contains i && (BU md ops l && (!l.getD z false && ve md ops i 16 z))))
theorem dK{i:Nat}{oi:Oper}{v:Value}{fuel:Nat}{l:Array Bool}{a:Act}{w:World}(hi:ops[i]? =some oi)(hb:LN md ops l z i=true)
 (hQ:∀c a w,Q (.panic c) (a.put oi.dst v) w->Q (.panic c) a w)(hy:YieldsIf P ops S oi v a)(hS:S w)
 (h:jt P md ops Q S z fuel (l.setIfInBounds i true) (a.put oi.dst v) w):jt P md ops Q S z (fuel+1) l a w:=by
 unfold LN at hb;simp only [XAt,XEK] at hb;obtain⟨h1,h2,h3,h4,h5,h6⟩:=hb;exact aaq hi (Region.noSelect_spec h1) hQ h6 fuel l a w (Region.free_spec hi h2) (RV h4) h5 qkq hy hS h
theorem wX{i:Nat}{oi:Oper}{fuel:Nat}{l:Array Bool}{a:Act}{w:World}(hi:ops[i]? =some oi)(hr:Region.ready md ops l= [i])
 (h:∀K:Act->World->Prop,(∀a' w',(l.getD z false=false->i≠z->S w')->jt P md ops Q S z fuel (l.setIfInBounds i true) a' w'->K a' w')->if Region.wanted oi (yielded ops a.tmps)=true then Oper.wp P oi a w K Q else K (a.put oi.dst undef) w):jt P md ops Q S z (fuel+1) l a w:=by
 refine⟨λh0=>(by rw [hr] at h0;cases h0),λj hj=>?_⟩;rw [hr] at hj;obtain rfl:=XA2.1 hj;exact wpOp_step hi (λK' hK=>h K' (λa w hS hW=>hK a w ⟨hS,hW⟩))
theorem aay{l:Array Bool}{a:Act}{w:World}(hr:Region.ready md ops l= [])(h:Q .normal a w):∀fuel,jt P md ops Q S z fuel l a w
 |0=>⟨hr,h⟩
 |_+1=>⟨λ_=>h,by rw [hr];simp⟩
theorem aaC{id:Nat}{a:Act}{w:World}(S:World->Prop)(z:Nat)(hm:P.follows .mixedOrders=true)
 (h:jt P .any ops Q S z ops.size (Array.replicate ops.size false) a w.drew):(Code.region id ops true).wp P Q a w:=
 wp_region_any hm (Me _ _ _ _ h)
end
end
end Go.Proofs.YtedefgjfgdcfdaaGreatDoor
