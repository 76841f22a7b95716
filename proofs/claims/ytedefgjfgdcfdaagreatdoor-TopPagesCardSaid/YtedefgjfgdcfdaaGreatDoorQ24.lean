/- Walks and laws for TopPages. -/
import Derived.Test.YtedefgjfgdcfdaaGreatDoorQ14
import Derived.Test.YtedefgjfgdcfdaaGreatDoorQ22
import Derived.Test.YtedefgjfgdcfdaaGreatDoorQ23
namespace Go.Proofs.YtedefgjfgdcfdaaGreatDoor
open Go.RowKit Go.Proofs.Tryz
set_option maxRecDepth 100000
set_option maxHeartbeats 4000000
section
variable{w w':World}{b mb g tm:Nat}{c:Ch}{ws:List Nat}{n:Nat}{Q:Int->Option Tk}{q:Nat}
theorem aP.mapped(h:aP w b mb g tm c ws n Q q){Q':Int->Option Tk}{q':Nat}(hm:bR aH prog 3 w' tm q' Q')(ho:Only tm w w')(ht:ku c Q'):aP w' b mb g tm c ws n Q' q':=
 ⟨h.blk.only ho h.nb.2.2,h.mw.rws ho.rws (by simpa using h.nt.1.symm) (by simpa using h.nt.2.symm),hm,h.nb,h.nt,ht⟩
theorem ku.put(h:ku c Q){x:Int}{t:Tk}(ht:cR t)(h0:t.az=0)(hc:t.aj=x)(hx:0<=x/\x<c.C):ku c (cU Q x (some t)):=by
 intro y u hy hu;unfold cU at hu;split at hu
 .rename_i e;obtain rfl:=XAl hu;exact⟨ht,h0,by rw [hc,e],qd,qd⟩
 .exact h y u hy hu
theorem ku.del(h:ku c Q)(x:Int):ku c (cU Q x none):=by
 intro y u hy hu;unfold cU at hu;split at hu
 .cases hu
 .exact h y u hy hu
theorem Z5(F:Int->Option Tk)(x:Int)(a b:Option Tk):cU (cU F x a) x b=cU F x b:=by
 funext y;unfold cU;split<;>rfl
theorem hU{r:Nat}(h:w.mapTurned w' r):Only r w w':=by
 obtain⟨es,clock,es',clock',hb,rfl⟩:=h;exact⟨R,R,R,by simp [Go.ChangeMaps.setBlock],λk hk=>XEu hb _ hk⟩
theorem Rws.only{gs:List Nat}{a:World}{r:Nat}(h:Rws gs a w)(ho:Only r w w')(hr:a.heap.size<=r):Rws gs a w':=
 ⟨ho.os.trans h.os,ho.tape.trans h.tape,ho.output.trans h.output,XAL h.size (XAs ho.size.symm),λk hk h1=>(ho.block k qd).trans (h.block k hk h1)⟩
def fW(Q:Int->Option Tk)(t:Tk):Int->Option Tk:=cU Q t.aj (if t.az=0 then some t else none)
theorem vm(w:World)(h:aP w b mb g tm c ws n Q q)(hq:q<=1000000)(t:Tk)(hx:0<=t.aj/\t.aj<c.C)(ht:t.az=0->cR t):Z 158 #[(b,0),aH t,I 0] w λe w'=>
  e=.returned (.tuple #[aH t,I 0])/\aP w' b mb g tm c ws n (fW Q t) (q+1)/\Rws [tm] w w':=by
 obtain⟨l1,l2,l3,l4⟩:=h.bj;have c7:w.cell? (b,7)=some (.map (some tm)):=h.blk.cell 7;have H:=XAA h;have Dc:=sg h.mw.c hx;have HT:=XAA ht;clear h ht;go_enter func158,ntmps158;go_wp2;refine bg λW hW=>?_;have hb0:Below w w W:=by rw [hW];exact((XAC _ w).alloc (XAB _) _).alloc ql _
 have KT:ak W w.heap.size 210 (bD t):=by rw [hW];exact(ak.new w 210 (bD t)).alloc _
 have KR:ak W (w.heap.size+1) 210 (bD aO):=by rw [hW];exact ak.new2 w _ 210 (bD aO)
 clear hW;have d7:W.cell? (b,7)=some (.map (some tm)):=(hb0.cell (p:=⟨b,7,none⟩) l1).trans c7;have t1:W.cell? (w.heap.size,1)=I t.aj:=KT.cell 1;have lt:=KT.lt;have lr:=KR.lt;have sz:=hb0.size;have lb:b<W.heap.size:=qd
 (refine bN 7 (W.heap.size) ?_;intro hxc aA hxh hxn;simp only [List.take,List.drop];(repeat (first|(refine wY rfl _ rfl rfl t (λV hV=>by obtain⟨s,rfl⟩:=hV;exact(hxh s _ lt).trans KT) ?_)|go_big_quiet_step (fail)|quiet_step (fail)));refine XAG ?_;clear hxc aA hxh hxn;intro w1 hb1 hz1 hc1 hf1)
 have hb2:Below w w w1:=hb0.trans (hb1.mono sz);have Fy:=KT.below hb1;have Fx:=KR.below hb1;have HC:=XAA (H.out.below hb2);clear KT KR hb1 hc1 hf1 hb0 d7 t1;have hr1:Rws [tm] w w1:=Rws.of_below [tm] hb2;have HR1:=XAA hr1;clear hr1;by_cases hf:t.az=0
 .go_wp2_with (first
   |(at_mapUpdate;refine ju R 251 _ _ _ R gX oe R HC.out.mp qw t.aj t R R Dc ?_;intro w2 hm2 ht2;have ho2:=hU ht2;have oK:=Fy.only ho2 qd;have u5:=Fx.only ho2 qd;have t3:w2.cell? (w.heap.size,3)=I 0:=(by rw [<-hf];exact oK.cell 3);have hC2:=HC.out.mapped hm2 ho2 (HC.out.tk.put (HT.out hf) hf R hx);have HC2:=XAA hC2;have HR2:=XAA (Rws.trans HR1.out ho2.rws);clear hm2 ht2 ho2 hC2)|(refine iC R _ R R t oK ?_)|(refine bn R _ _ R R t R u5 R ?_;intro w3 ho3 pE))
  refine XAI (v:=.tuple #[aH t,I 0]) (dc R _ _ qu qu (cn 210 pE XAQ R (fC.trans R))) R ?_;refine⟨R,?_,HR2.out.only ho3 qd⟩;have:=HC2.out.only ho3 qd;unfold fW;rw [XAE hf];exact this
 .have hf1:(t.az==0)=false:=by simpa using hf
  go_wp2_with (first
   |(at_mapUpdate;refine ju R 251 _ _ _ R gX oe R HC.out.mp qw t.aj t R R Dc ?_;intro w2 hm2 ht2;have ho2:=hU ht2;have oK:=Fy.only ho2 qd;have u5:=Fx.only ho2 qd;have t3:w2.cell? (w.heap.size,3)=I t.az:=oK.cell 3;have hB2:=HC.out.blk.only ho2 HC.out.nb.2.2;have AI:=XAA hm2;have fH:=XAA ho2;have HR2:=XAA (Rws.trans HR1.out ho2.rws);have d7:w2.cell? (b,7)=some (.map (some tm)):=hB2.cell 7;have t4:w2.cell? (w.heap.size,1)=I t.aj:=oK.cell 1;have jN:=oK.lt;have lr2:=u5.lt;have lb2:=hB2.lt;clear hB2 hm2 ht2 ho2))
  (refine bN 6 (w2.heap.size) ?_;intro hxc aA hxh hxn;simp only [List.take,List.drop];(repeat (go_big_quiet_step (fail)));refine XAG ?_;clear hxc aA hxh hxn;intro w1 hb1 hz1 hc1 hf1)
  have gH:=oK.below hb1;have AX:=u5.below hb1;have Nu:=XAA (AI.out.below hb1);have HB:=XAA hb1;clear hb1 hc1 hf1 d7 t3 t4 oK u5
  go_wp2_with (first
   |(at_delete;refine Mg R 251 3 _ _ R gX oe R Nu.out t.aj R Dc ?_;intro w4 hm4 pj;have gU:=hU pj;have N7:=gH.only gU qd;have N5:=AX.only gU qd;have AJ:=XAA hm4;have AL:=XAA gU;clear hm4 pj gU)|(refine iC R _ R R t N7 ?_)|(refine bn R _ _ R R t R N5 R ?_;intro w5 bI gZ))
  refine XAI (v:=.tuple #[aH t,I 0]) (dc R _ _ qu qu (cn 210 gZ XAQ R (fC.trans R))) R ?_;have h2:w2.heap.size=_:=fH.out.size;have h4:=AL.out.size;have o5:Rws [tm] w w4:=Rws.trans (Rws.trans HR2.out (Rws.of_below [tm] HB.out)) AL.out.rws;refine⟨R,?_,o5.only bI qd⟩;have hb4:Rws [tm] _ w4:=Rws.trans (Rws.trans fH.out.rws (Rws.of_below [tm] HB.out)) AL.out.rws;have rU:aP w4 b mb g tm c ws n (fW Q t) (q+1):=by
   refine⟨HC.out.blk.rws hb4 (by simpa using HC.out.nb.2.2),HC.out.mw.rws hb4 (by simpa using HC.out.nt.1.symm) (by simpa using HC.out.nt.2.symm),?_,HC.out.nb,HC.out.nt,?_⟩
   .have:=AJ.out;rw [Z5] at this;unfold fW;rw [XAD hf];exact this
   .unfold fW;rw [XAD hf];exact HC.out.tk.del _
  exact rU.only bI qd
theorem aP.has(h:aP w b mb g tm c ws n Q q){x:Int}(hx:0<=x/\x<c.C){t:Tk}(e:Q x=some t):cR t/\t.az=0/\t.aj=x:=by
 have:=h.tk x t (sg h.mw.c hx) e;exact⟨this.1,this.2.1,this.2.2.1⟩
theorem yt(w:World)(h:aP w b mb g tm c ws n Q q)(x:Int)(hx:0<=x/\x<c.C)(t:Tk)(v:Int)(hq:Q x=some t)(hv:t.aB=v):Z 153 #[(b,0),I x,I v] w λe w'=>
  e=.returned (.tuple #[aH t,I 0])/\Below w w w':=by
 obtain⟨l1,l2,l3,l4⟩:=h.bj;have c7:w.cell? (b,7)=some (.map (some tm)):=h.blk.cell 7;have hlk:=h.look hx (w.alloc (.cells aQ 210)) (XAX w _ tm l4);rw [hq] at hlk;have BR:=ak.new w 210 aQ;have BT:=ak.new2 w (.cells aQ 210) 210 aQ;dsimp only [aQ] at BR BT hlk;have HC:=XAA h;subst hv;clear h hq;go_enter func153,ntmps153;go_wp2_with (first|(go_at_call 146;refine Xr (oR (HC.out.alloc _) x hx) ?_)|(refine bn R _ _ R R t R BT R ?_;intro w1 ho1 nQ;have kw:w1.cell? (w.heap.size+1,4)=I t.aB:=nQ.cell 4;have mM:=(BR.alloc _).only ho1 qd;clear hlk)|(refine iC R _ R R t nQ ?_)|(refine bn R _ _ R R t R mM R ?_;intro w2 ho2 mN));refine XAI (v:=.tuple #[aH t,I 0]) (dc R _ _ qu qu (cn 210 mN XAQ R (fC.trans R))) R ⟨R,aI (aI qa ho1 (XAU _)) ho2 (XAB _)⟩
end
theorem Ch.Ok.Mb{c:Ch}(h:c.Ok):1<=c.words/\c.words<=4096:=by
 refine⟨?_,h.words_le⟩;unfold Ch.words;omega
def ED(w:World)(c:Ch)(e:Ending)(w':World):Prop:=∃b mb g tm,e=.returned (.tuple #[(b,0),I 0])/\aP w' b mb g tm c (List.replicate c.words 0) 0 (λ_=>none) 0/\w.heap.size<=b/\w.heap.size<=mb/\w.heap.size<=g/\w.heap.size<=tm/\Below w w w'
theorem Sz(w:World)(c:Ch)(hc:c.Ok):Z 167 #[dh c] w (ED w c):=by
 obtain⟨m,hm⟩:=Xq c.words;have hw:=hc.Mb;have hmm:= @XCb prog;have W1:=XAA (GK hc (w.alloc (.cells #[I c.C,I 32,I c.O,I 1,I 2,J c.key] 249)));have BC:=ak.new w 249 #[I c.C,I 32,I c.O,I 1,I 2,J c.key];have HC:=XAA hc;have HM:=XAA hm;rw [hm] at hw;obtain⟨h1,h2⟩:=hw;have k0:(w.alloc (.cells #[I c.C,I 32,I c.O,I 1,I 2,J c.key] 249)).heap.size=w.heap.size+1:=ql
 have K0:=XAA k0;clear hm hc W1 k0;go_enter func167,ntmps167;go_wp2_with (first|(go_at_call 203;refine(eH HC.out _).mono ?_;rintro e w1 ⟨rfl,hb1⟩;have B1:=BC.below hb1;have q0:w1.cell? (w.heap.size,0)=I c.C:=B1.cell 0;have q1:w1.cell? (w.heap.size,1)=I 32:=B1.cell 1;have q2:w1.cell? (w.heap.size,2)=I c.O:=B1.cell 2;have q3:w1.cell? (w.heap.size,3)=I 1:=B1.cell 3;have q4:w1.cell? (w.heap.size,4)=I 2:=B1.cell 4;have q5:w1.cell? (w.heap.size,5)=J c.key:=B1.cell 5)|(go_at_call 213;refine(GK HC.out _).mono ?_;rw [HM.out];rintro e w2 ⟨rfl,hb2⟩)|(go_at_call 212;refine(Y7 m h1 h2 _).mono ?_;rintro e w3 ⟨mb,g,rfl,hM,hmb,hg,hb3⟩;have B3:=(B1.below hb2).below hb3;have q0:w3.cell? (w.heap.size,0)=I c.C:=B3.cell 0;have q1:w3.cell? (w.heap.size,1)=I 32:=B3.cell 1;have q2:w3.cell? (w.heap.size,2)=I c.O:=B3.cell 2;have q3:w3.cell? (w.heap.size,3)=I 1:=B3.cell 3;have q4:w3.cell? (w.heap.size,4)=I 2:=B3.cell 4;have q5:w3.cell? (w.heap.size,5)=J c.key:=B3.cell 5;have Nw:=XAA hM;clear hM))
 go_ret2
 have hM:=Nw.out;have l1:=hM.head.lt;have l2:=hM.row.lt;have z1:=hb1.size;have z2:=hb2.size;have z3:=hb3.size;have k0:=K0.out;have kb:=ak.new (w3.alloc (.map #[] 0)) 253 #[I c.C,I 32,I c.O,I 1,I 2,J c.key,.pointer (mb,0),.map (some w3.heap.size)];rw [XAT] at kb;refine⟨w3.heap.size+1,mb,g,w3.heap.size,R,⟨kb,⟨?_,by rw [XCD],λx hx=>by rw [(XEb.1 hx).2];decide,HC.out⟩,(bR.new w3).alloc _,⟨qd,qd,qd⟩,⟨qd,qd⟩,λx t _ h=>qck⟩,qd,qd,qd,qd,?_⟩
 .rw [HM.out];exact(hM.alloc _).alloc _
 .exact(((XAC w.heap.size w).alloc (XAB _) _).trans (hb1.mono qd)).trans ((hb2.mono qd).trans ((hb3.mono qd).trans (((XAC w.heap.size w3).alloc qd _).alloc qj _)))
section
open Go.Shelf
def jE(pc:Int):Prop:=pc=0\/pc=1\/pc=2\/pc=3\/pc=10\/pc=11\/pc=12\/pc=13
structure m6(c:Ch)(t:Tk)(ws:List Nat)(n:Nat)(t':Tk)(ws':List Nat)(n':Nat):Prop where
 fa:jE t.pc->t'=eW t (dU c t.pc ⟨t,false,ws,n⟩)/\ws'=(dU c t.pc ⟨t,false,ws,n⟩).ws/\n'=(dU c t.pc ⟨t,false,ws,n⟩).n
 fi:gz t.pc->t'=eW t (aZ c t.pc ⟨t,false,ws,n⟩)/\ws'=(aZ c t.pc ⟨t,false,ws,n⟩).ws/\n'=(aZ c t.pc ⟨t,false,ws,n⟩).n
def xW(t:Tk)(mb g:Nat)(c:Ch)(ws:List Nat)(n:Nat)(w:World)(e:Ending)(w':World):Prop:=
 ∃(t':Tk)(ws':List Nat)(n':Nat),e=.returned (.tuple #[aH t',I 0])/\MW w' mb g c ws' n'/\n'<=n+3/\Rws [mb,g] w w'/\t'.aj=t.aj/\(t'.az=0->cR t')/\m6 c t ws n t' ws' n'
theorem one_le(b:Bool):one b<=1:=by cases b<;>decide
section
variable{mb g:Nat}{c:Ch}{ws:List Nat}{n:Nat}
theorem nb{a b:Nat}(x:Bool)(h:a=b+one x):a<=b+3:=by have:=one_le x;omega
theorem nz{a b:Nat}(h:a=b):a<=b+3:=qd
theorem eB(b:Bool)(x y:Int)(E:St):(either b x y E).n=E.n:=by unfold either;split<;>rfl
theorem He(E:St):(nD c E).n<=E.n+3:=by
 unfold nD;try dsimp only
 repeat' split
 all_goals first|exact nb _ rfl|exact nz rfl|exact nb _ (eB _ _ _ _)
theorem S_(E:St):(nA c E).n<=E.n+3:=by
 unfold nA;try dsimp only
 repeat' split
 all_goals first|exact nb _ rfl|exact nz rfl|exact nb _ (eB _ _ _ _)
theorem Tb(E:St):(nB c E).n<=E.n+3:=by
 unfold nB;try dsimp only
 repeat' split
 all_goals first|exact nb _ rfl|exact nz rfl|exact nb _ (eB _ _ _ _)
theorem Ta(E:St):(mB c E).n<=E.n+3:=by
 unfold mB;try dsimp only
 repeat' split
 all_goals first|exact nb _ rfl|exact nz rfl|exact nb _ (eB _ _ _ _)
theorem Tc(E:St):(nC c E).n<=E.n+3:=by
 unfold nC;try dsimp only
 repeat' split
 all_goals first|exact nb _ rfl|exact nz rfl|exact nb _ (eB _ _ _ _)
theorem Hc(x y:Int)(E:St):(iO c x y E).n<=E.n+3:=by
 unfold iO;try dsimp only
 repeat' split
 all_goals first|exact nb _ rfl|exact nz rfl|exact nb _ (eB _ _ _ _)
theorem Tg(E:St):(tG c E).n<=E.n+3:=by
 unfold tG;try dsimp only
 repeat' split
 all_goals first|exact nb _ rfl|exact nz rfl|exact nb _ (eB _ _ _ _)
theorem Hi(E:St):(nE c E).n<=E.n+3:=by
 unfold nE;try dsimp only
 repeat' split
 all_goals first|exact nb _ rfl|exact nz rfl|exact nb _ (eB _ _ _ _)
theorem Hh(E:St):(jG c E).n<=E.n+3:=by
 unfold jG;try dsimp only
 repeat' split
 all_goals first|exact nb _ rfl|exact nz rfl|exact nb _ (eB _ _ _ _)
theorem Ce(E:St):(eu c E).n<=E.n+3:=by
 unfold eu;try dsimp only
 repeat' split
 all_goals first|exact nb _ rfl|exact nz rfl|exact nb _ (eB _ _ _ _)
theorem Tr(E:St):(tL c E).n<=E.n+3:=by
 unfold tL;try dsimp only
 repeat' split
 all_goals first|exact nb _ rfl|exact nz rfl|exact nb _ (eB _ _ _ _)
theorem Tl(E:St):(oT c E).n<=E.n+3:=by
 unfold oT;try dsimp only
 repeat' split
 all_goals first|exact nb _ rfl|exact nz rfl|exact nb _ (eB _ _ _ _)
theorem Tq(E:St):(oU c E).n<=E.n+3:=by
 unfold oU;try dsimp only
 repeat' split
 all_goals first|exact nb _ rfl|exact nz rfl|exact nb _ (eB _ _ _ _)
theorem Tu(E:St):(tM c E).n<=E.n+3:=by
 unfold tM;try dsimp only
 repeat' split
 all_goals first|exact nb _ rfl|exact nz rfl|exact nb _ (eB _ _ _ _)
theorem To(E:St):(tJ c E).n<=E.n+3:=by
 unfold tJ;try dsimp only
 repeat' split
 all_goals first|exact nb _ rfl|exact nz rfl|exact nb _ (eB _ _ _ _)
theorem Tt(E:St):(mD c E).n<=E.n+3:=by
 unfold mD;try dsimp only
 repeat' split
 all_goals first|exact nb _ rfl|exact nz rfl|exact nb _ (eB _ _ _ _)
theorem Hj(E:St):(lE c E).n<=E.n+3:=by
 unfold lE;try dsimp only
 repeat' split
 all_goals first|exact nb _ rfl|exact nz rfl|exact nb _ (eB _ _ _ _)
theorem Ts(E:St):(rR c E).n<=E.n+3:=by
 unfold rR;try dsimp only
 repeat' split
 all_goals first|exact nb _ rfl|exact nz rfl|exact nb _ (eB _ _ _ _)
theorem Ti(E:St):(tH c E).n<=E.n+3:=by
 unfold tH;try dsimp only
 repeat' split
 all_goals first|exact nb _ rfl|exact nz rfl|exact nb _ (eB _ _ _ _)
theorem Tj(E:St):(nG c E).n<=E.n+3:=by
 unfold nG;try dsimp only
 repeat' split
 all_goals first|exact nb _ rfl|exact nz rfl|exact nb _ (eB _ _ _ _)
theorem Tn(E:St):(rQ c E).n<=E.n+3:=by
 unfold rQ;try dsimp only
 repeat' split
 all_goals first|exact nb _ rfl|exact nz rfl|exact nb _ (eB _ _ _ _)
theorem Tp(E:St):(tK c E).n<=E.n+3:=by
 unfold tK;try dsimp only
 repeat' split
 all_goals first|exact nb _ rfl|exact nz rfl|exact nb _ (eB _ _ _ _)
theorem Tf(E:St):(tF c E).n<=E.n+3:=by
 unfold tF;try dsimp only
 repeat' split
 all_goals first|exact nb _ rfl|exact nz rfl|exact nb _ (eB _ _ _ _)
theorem Tm(E:St):(tI c E).n<=E.n+3:=by
 unfold tI;try dsimp only
 repeat' split
 all_goals first|exact nb _ rfl|exact nz rfl|exact nb _ (eB _ _ _ _)
theorem Th(E:St):(nF c E).n<=E.n+3:=by
 unfold nF;dsimp only;generalize (if(c.O:Int)<=IntKind.i64.wrap (E.t.ay+1) then(-1:Int) else IntKind.i64.wrap (E.t.ay+1))=nx;split
 .exact nz rfl
 .exact nb _ (eB _ _ _ _)
theorem dk{pc:Int}{E:St}(D:Ch->Int->St->St)(f:St->St)(h:D c pc=f)(hf:∀E,(f E).n<=E.n+3):(D c pc E).n<=E.n+3:=by rw [h];exact hf E
theorem Td{pc:Int}(hp:jE pc)(E:St):(dU c pc E).n<=E.n+3:=by
 rcases hp with rfl|rfl|rfl|rfl|rfl|rfl|rfl|rfl
 .exact dk dU (nD c) qda He
 .exact dk dU (nA c) qda S_
 .exact dk dU (nB c) qda Tb
 .exact dk dU (λE=>iO c E.t.au 0 E) qda (λE=>Hc _ _ E)
 .exact dk dU (nD c) qda He
 .exact dk dU (mB c) qda Ta
 .exact dk dU (nC c) qda Tc
 .exact dk dU (λE=>iO c E.t.aq 10 E) qda (λE=>Hc _ _ E)
theorem Tv{pc:Int}(hp:gz pc)(E:St):(aZ c pc E).n<=E.n+3:=by
 rcases hp with rfl|rfl|rfl|rfl|rfl|rfl|rfl|rfl|rfl|rfl|rfl|rfl|rfl|rfl|rfl|rfl|rfl|rfl|rfl|rfl|rfl|rfl|rfl|rfl
 .exact dk aZ (tG c) qo Tg
 .exact dk aZ (nE c) qo Hi
 .exact dk aZ (jG c) qo Hh
 .exact dk aZ (eu c) qo Ce
 .exact dk aZ (eu c) qo Ce
 .exact dk aZ (tL c) qo Tr
 .exact dk aZ (oT c) qo Tl
 .exact dk aZ (oU c) qo Tq
 .exact dk aZ (tM c) qo Tu
 .exact dk aZ (tJ c) qo To
 .exact dk aZ (mD c) qo Tt
 .exact dk aZ (lE c) qo Hj
 .exact dk aZ (nE c) qo Hi
 .exact dk aZ (jG c) qo Hh
 .exact dk aZ (eu c) qo Ce
 .exact dk aZ (rR c) qo Ts
 .exact dk aZ (tH c) qo Ti
 .exact dk aZ (nG c) qo Tj
 .exact dk aZ (nF c) qo Th
 .exact dk aZ (rQ c) qo Tn
 .exact dk aZ (tK c) qo Tp
 .exact dk aZ (tF c) qo Tf
 .exact dk aZ (tI c) qo Tm
 .exact dk aZ (lE c) qo Hj
theorem Kw{x:Int}(h:jE x):¬gz x:=by unfold jE gz at*;omega
theorem Ut(w:World)(hM:MW w mb g c ws n)(hn:n<=999000)(t:Tk)(ht:cR t)(h0:t.az=0)(h1:t.aB=0)(hp:jE t.pc):Z 154 #[(mb,0),dh c,aH t] w (xW t mb g c ws n w):=by
 have hc:Z 154 #[(mb,0),dh c,aH t] w (yB t mb g c ws n w):=by
  have hn':n<=1000000:=qd;rcases hp with h|h|h|h|h|h|h|h
  .exact oX w hM t ht.ok h0 h1 227 (enters_of func227 qh R) 0 qgt (nD c) qfg λW s hs=>Im W hs hn' (.inl h)
  .exact oX w hM t ht.ok h0 h1 228 (enters_of func228 qh R) 1 qgt (nA c) qfg λW s hs=>Up W hs hn'
  .exact oX w hM t ht.ok h0 h1 229 (enters_of func229 qh R) 2 qgt (nB c) qfg λW s hs=>Ur W hs hn'
  .exact oX w hM t ht.ok h0 h1 230 (enters_of func230 qh R) 3 qgt (λE=>iO c E.t.au 0 E) qfg λW s hs=>Uu W hs hn'
  .exact oX w hM t ht.ok h0 h1 227 (enters_of func227 qh R) 4 qgt (nD c) qfg λW s hs=>Im W hs hn' (.inr h)
  .exact oX w hM t ht.ok h0 h1 231 (enters_of func231 qh R) 5 qgt (mB c) qfg λW s hs=>Uq W hs hn'
  .exact oX w hM t ht.ok h0 h1 232 (enters_of func232 qh R) 6 qgt (nC c) qfg λW s hs=>Uv W hs hn'
  .exact oX w hM t ht.ok h0 h1 233 (enters_of func233 qh R) 7 qgt (λE=>iO c E.t.aq 10 E) qfg λW s hs=>Uo W hs hn'
 refine hc.mono ?_;rintro e w' ⟨rfl,h2,h3,h4⟩;exact⟨_,_,_,R,h2,Td hp _,h4,LG (Hf h1 hp).aj,Te h1 hp h3,λ_=>⟨R,R,R⟩,λh=>absurd h (Kw hp)⟩
theorem TY(w:World)(hM:MW w mb g c ws n)(hn:n<=999000)(hg:fD w w.heap.size mb g)(t:Tk)(ht:cR t)(h0:t.az=0)(h1:t.aB=0)(hp:gz t.pc):Z 155 #[(mb,0),dh c,aH t] w (xW t mb g c ws n w):=by
 have hs:¬Nx t.pc->0<=t.ai/\t.ai<32:=λh=>ht.at_ (.inr ⟨h1,h⟩);refine(TX w hM qd t ht.ok h0 h1 hg hp).mono ?_;rintro e w' ⟨rfl,h2,h3,h4⟩;exact⟨_,_,_,R,h2,Tv hp _,h4,LG (Hk h1 hs hp).aj,Tw h1 hs hp h3,λh=>absurd hp (Kw h),λ_=>⟨R,R,R⟩⟩
theorem Ma{t:Tk}{w w':World}{e:Ending}(h:vb t mb g c (n+3) w e w')(h1:¬jE t.pc)(h2:¬gz t.pc):xW t mb g c ws n w e w':=by
 obtain⟨t',ws',n',rfl,h3,h4,h5,h6,h7,-⟩:=h;exact⟨t',ws',n',R,h3,h4,h5,h6,h7,λh=>absurd h h1,λh=>absurd h h2⟩
end
end
section
variable{w w':World}{b mb g tm:Nat}{c:Ch}{ws:List Nat}{n:Nat}{Q:Int->Option Tk}{q:Nat}
theorem cR.begun{t:Tk}(p:Int)(hp0:t.pc=p)(h:t=⟨t.ar,t.aj,t.pc,0,0,t.ai,t.aq,0,0,0,0,0,0,0,0,0,t.fr⟩)(hp:Nx p):cR t:=by
 have z:(0:Nat)<U64:=qf;rw [h];exact⟨⟨z,z,z,z,z⟩,.inl R,λh1=>(h1.elim (λh2=>by cases h2) λh2=>absurd (by rw [<-hp0] at hp;exact hp) h2.2),λh1=>by cases h1⟩
theorem aP.nq(h:aP w b mb g tm c ws n Q q):w.cell? (b,0)=I c.C/\w.cell? (b,1)=I 32/\w.cell? (b,2)=I c.O/\w.cell? (b,3)=I 1/\w.cell? (b,4)=I 2/\w.cell? (b,5)=J c.key:=
 ⟨h.blk.cell 0,h.blk.cell 1,h.blk.cell 2,h.blk.cell 3,h.blk.cell 4,h.blk.cell 5⟩
theorem aP.rP(h:aP w b mb g tm c ws n Q q){p:Addr}{B:Nat}(hB:B<=p.block)(l1:b<B)(l2:mb<B)(l3:g<B)(l4:tm<B)(v:Value):aP (w.setCell p v) b mb g tm c ws n Q q:=
 ⟨h.blk.far qd v,h.mw.far qd qd v,h.mp.far qd v,h.nb,h.nt,h.tk⟩
theorem Rws.yi{gs:List Nat}{a:World}(h:Rws gs a w)(hb:Below w w w'):Rws gs a w':=Rws.trans h (Rws.of_below gs hb)
theorem So(w:World)(h:aP w b mb g tm c ws n Q q)(hq:q<=1000000)(x:Int)(hx:0<=x/\x<c.C)(s o:Int)(hQ:Q x=none):Z 107 #[(b,0),I x,I 1,I s,I o] w λe w'=>e=.returned (I 0)/\aP w' b mb g tm c ws n (cU Q x (some { aO with ar:=1,aj:=x })) (q+1)/\Rws [tm] w w':=by
 obtain⟨l1,l2,l3,l4⟩:=h.bj;have c7:w.cell? (b,7)=some (.map (some tm)):=h.blk.cell 7;have hlk:=h.look hx w rfl;rw [hQ] at hlk;have HC:=XAA h;have BR:=ak.new w 210 aQ;dsimp only [aQ] at BR;clear h hQ;go_enter func107,ntmps107;go_wp2_with (first|(go_at_call 146;with_reducible refine Xr (oR HC.out x hx) ?_)|(refine bn R _ _ R R aO R BR R ?_;intro w1 ho1 nQ;have dB:=HC.out.below (aI ((XAC _ w).alloc (XAB _) _) ho1 (XAB _));have bK:=XAA dB;have d7:w1.cell? (b,7)=some (.map (some tm)):=dB.blk.cell 7;have z1:w1.heap.size=w.heap.size+1:=qfa;have hb1:=aI ((XAC _ w).alloc (XAB _) _) ho1 (XAB _);have HZ:=XAA z1;have lz:w.heap.size<w1.heap.size:=qd;clear z1 dB hlk)|(refine bn R _ _ R R { aO with ar:=1,aj:=x } R (ak.new w1 210 aQ) R ?_;intro w2 ho2 bt;have hC2:=bK.out.below (aI ((XAC _ w1).alloc (XAB _) _) ho2 (XAB _));obtain⟨e0,e1,e2,e3,e4,e5⟩:=hC2.nq;have HC2:=XAA hC2;have hb2:=aI ((XAC _ w1).alloc (XAB _) _) ho2 (XAB _);have lz2:=bt.lt;clear hC2)|(go_at_call 147;refine(iM HC2.out.mw.c s o _).mono ?_;rintro e w3 ⟨rfl,hb3⟩;have aT:=bt.below hb3;have bL:=XAA (HC2.out.below hb3);have lz3:=aT.lt)|(go_at_call 146;with_reducible refine Xr (oQ HC2.out s) ?_));refine bg λW hW=>?_;have KT:ak W w1.heap.size 210 (bD { aO with ar:=1,aj:=x }):=by rw [hW];exact bt
 have hR:Rws [tm] w W:=by rw [hW];exact(Rws.of_below [tm] (bB hb1 hb2))
 have hC:aP W b mb g tm c ws n Q q:=by rw [hW];exact HC2.out
 have e_:=XAA hC;have HRW:=XAA hR;have d7:W.cell? (b,7)=some (.map (some tm)):=hC.blk.cell 7;have lw:=KT.lt;have sz:=hR.size;have lb:b<W.heap.size:=qd
 have HT:Hid (ku c (cU Q x (some { aO with ar:=1,aj:=x }))):=XAA (hC.tk.put (cR.begun 0 R R qf) R R hx);have hk:=sg hC.mw.c hx;clear hW hC hR;(refine bN 6 (W.heap.size) ?_;intro hxc aA hxh hxn;simp only [List.take,List.drop];(repeat (first|(refine wY rfl _ rfl rfl { aO with ar:=1,aj:=x } (λV hV=>qcx) ?_)|go_big_quiet_step (fail)|quiet_step (fail)));refine XAG ?_;clear hxc aA hxh hxn;intro w1 hb1 hz1 hc1 hf1);have jH:=e_.out.below hb1;have bL:=XAA jH;clear jH hc1 hf1 d7;go_wp2_with (at_mapUpdate;refine ju R 251 _ _ _ R gX oe R bL.out.mp qw x { aO with ar:=1,aj:=x } R R hk ?_;intro w5 eD dH);go_ret;exact⟨R,bL.out.mapped eD (hU dH) HT.out,(HRW.out.yi hb1).trans (hU dH).rws⟩
theorem Sq(w:World)(h:aP w b mb g tm c ws n Q q)(hq:q<=1000000)(x:Int)(hx:0<=x/\x<c.C)(s o:Int)(hQ:Q x=none)(hl:0<=eK c s o):Z 107 #[(b,0),I x,I 2,I s,I o] w λe w'=>e=.returned (I 0)/\aP w' b mb g tm c ws n (cU Q x (some { aO with ar:=2,aj:=x,pc:=10,ai:=s,aq:=o })) (q+1)/\Rws [tm] w w':=by
 obtain⟨l1,l2,l3,l4⟩:=h.bj;have c7:w.cell? (b,7)=some (.map (some tm)):=h.blk.cell 7;have hlk:=h.look hx w rfl;rw [hQ] at hlk;have HC:=XAA h;have BR:=ak.new w 210 aQ;dsimp only [aQ] at BR;have hl1:¬eK c s o<0:=qd
 clear hl;clear h hQ;go_enter func107,ntmps107;go_wp2_with (first|(go_at_call 146;with_reducible refine Xr (oR HC.out x hx) ?_)|(refine bn R _ _ R R aO R BR R ?_;intro w1 ho1 nQ;have dB:=HC.out.below (aI ((XAC _ w).alloc (XAB _) _) ho1 (XAB _));have bK:=XAA dB;have d7:w1.cell? (b,7)=some (.map (some tm)):=dB.blk.cell 7;have z1:w1.heap.size=w.heap.size+1:=qfa;have hb1:=aI ((XAC _ w).alloc (XAB _) _) ho1 (XAB _);have HZ:=XAA z1;have lz:w.heap.size<w1.heap.size:=qd;clear z1 dB hlk)|(refine bn R _ _ R R { aO with ar:=2,aj:=x } R (ak.new w1 210 aQ) R ?_;intro w2 ho2 bt;have hC2:=bK.out.below (aI ((XAC _ w1).alloc (XAB _) _) ho2 (XAB _));obtain⟨e0,e1,e2,e3,e4,e5⟩:=hC2.nq;have HC2:=XAA hC2;have hb2:=aI ((XAC _ w1).alloc (XAB _) _) ho2 (XAB _);have s2:=bt.cell 2;have f2:=bt.frozen 2;rw [show(bD { aO with ar:=2,aj:=x })[2]? =I 0 from rfl] at s2;have s5:=bt.cell 5;have f5:=bt.frozen 5;rw [show(bD { aO with ar:=2,aj:=x })[5]? =I 0 from rfl] at s5;have s6:=bt.cell 6;have f6:=bt.frozen 6;rw [show(bD { aO with ar:=2,aj:=x })[6]? =I 0 from rfl] at s6;have lz2:=bt.lt;clear hC2)|(go_at_call 147;refine(iM HC2.out.mw.c s o _).mono ?_;rintro e w3 ⟨rfl,hb3⟩;have aT:=bt.below hb3;have bL:=XAA (HC2.out.below hb3);have s2:=aT.cell 2;have f2:=aT.frozen 2;rw [show(bD { aO with ar:=2,aj:=x })[2]? =I 0 from rfl] at s2;have s5:=aT.cell 5;have f5:=aT.frozen 5;rw [show(bD { aO with ar:=2,aj:=x })[5]? =I 0 from rfl] at s5;have s6:=aT.cell 6;have f6:=aT.frozen 6;rw [show(bD { aO with ar:=2,aj:=x })[6]? =I 0 from rfl] at s6;have lz3:=aT.lt)|(go_at_call 146;with_reducible refine Xr (oQ HC2.out s) ?_));refine bg λW hW=>?_;have KT:ak W w1.heap.size 210 (bD { aO with ar:=2,aj:=x,pc:=10,ai:=s,aq:=o }):=by rw [hW];exact(((aT.aJ 2 (I 10)).aJ 5 (I s)).aJ 6 (I o))
 have hR:Rws [tm] w W:=by rw [hW];exact(Rws.far (p:=⟨w1.heap.size,6,none⟩) (Rws.far (p:=⟨w1.heap.size,5,none⟩) (Rws.far (p:=⟨w1.heap.size,2,none⟩) (Rws.of_below [tm] (bB hb1 (bB hb2 hb3))) (XCg lz) (I 10)) (XCg lz) (I s)) (XCg lz) (I o))
 have hC:aP W b mb g tm c ws n Q q:=by rw [hW];exact(((bL.out.rP (p:=⟨w1.heap.size,2,none⟩) (XAB _) (XAg l1 lz) (XAg l2 lz) (XAg l3 lz) (XAg l4 lz) (I 10)).rP (p:=⟨w1.heap.size,5,none⟩) (XAB _) (XAg l1 lz) (XAg l2 lz) (XAg l3 lz) (XAg l4 lz) (I s)).rP (p:=⟨w1.heap.size,6,none⟩) (XAB _) (XAg l1 lz) (XAg l2 lz) (XAg l3 lz) (XAg l4 lz) (I o))
 have e_:=XAA hC;have HRW:=XAA hR;have d7:W.cell? (b,7)=some (.map (some tm)):=hC.blk.cell 7;have lw:=KT.lt;have sz:=hR.size;have lb:b<W.heap.size:=qd
 have HT:Hid (ku c (cU Q x (some { aO with ar:=2,aj:=x,pc:=10,ai:=s,aq:=o }))):=XAA (hC.tk.put (cR.begun 10 R R qf) R R hx);have hk:=sg hC.mw.c hx;clear hW hC hR;(refine bN 6 (W.heap.size) ?_;intro hxc aA hxh hxn;simp only [List.take,List.drop];(repeat (first|(refine wY rfl _ rfl rfl { aO with ar:=2,aj:=x,pc:=10,ai:=s,aq:=o } (λV hV=>qcx) ?_)|go_big_quiet_step (fail)|quiet_step (fail)));refine XAG ?_;clear hxc aA hxh hxn;intro w1 hb1 hz1 hc1 hf1);have jH:=e_.out.below hb1;have bL:=XAA jH;clear jH hc1 hf1 d7;go_wp2_with (at_mapUpdate;refine ju R 251 _ _ _ R gX oe R bL.out.mp qw x { aO with ar:=2,aj:=x,pc:=10,ai:=s,aq:=o } R R hk ?_;intro w5 eD dH);go_ret;exact⟨R,bL.out.mapped eD (hU dH) HT.out,(HRW.out.yi hb1).trans (hU dH).rws⟩
theorem Ss(w:World)(h:aP w b mb g tm c ws n Q q)(hq:q<=1000000)(x:Int)(hx:0<=x/\x<c.C)(s o:Int)(hQ:Q x=none)(hs:0<=s/\s<c.C):Z 107 #[(b,0),I x,I 3,I s,I o] w λe w'=>e=.returned (I 0)/\aP w' b mb g tm c ws n (cU Q x (some { aO with ar:=3,aj:=x,pc:=70,fr:=s })) (q+1)/\Rws [tm] w w':=by
 obtain⟨l1,l2,l3,l4⟩:=h.bj;have c7:w.cell? (b,7)=some (.map (some tm)):=h.blk.cell 7;have hlk:=h.look hx w rfl;rw [hQ] at hlk;have HC:=XAA h;have BR:=ak.new w 210 aQ;dsimp only [aQ] at BR;clear h hQ;go_enter func107,ntmps107;go_wp2_with (first|(go_at_call 146;with_reducible refine Xr (oR HC.out x hx) ?_)|(refine bn R _ _ R R aO R BR R ?_;intro w1 ho1 nQ;have dB:=HC.out.below (aI ((XAC _ w).alloc (XAB _) _) ho1 (XAB _));have bK:=XAA dB;have d7:w1.cell? (b,7)=some (.map (some tm)):=dB.blk.cell 7;have z1:w1.heap.size=w.heap.size+1:=qfa;have hb1:=aI ((XAC _ w).alloc (XAB _) _) ho1 (XAB _);have HZ:=XAA z1;have lz:w.heap.size<w1.heap.size:=qd;clear z1 dB hlk)|(refine bn R _ _ R R { aO with ar:=3,aj:=x } R (ak.new w1 210 aQ) R ?_;intro w2 ho2 bt;have hC2:=bK.out.below (aI ((XAC _ w1).alloc (XAB _) _) ho2 (XAB _));obtain⟨e0,e1,e2,e3,e4,e5⟩:=hC2.nq;have HC2:=XAA hC2;have hb2:=aI ((XAC _ w1).alloc (XAB _) _) ho2 (XAB _);have s2:=bt.cell 2;have f2:=bt.frozen 2;rw [show(bD { aO with ar:=3,aj:=x })[2]? =I 0 from rfl] at s2;have s16:=bt.cell 16;have f16:=bt.frozen 16;rw [show(bD { aO with ar:=3,aj:=x })[16]? =I 0 from rfl] at s16;have lz2:=bt.lt;clear hC2)|(go_at_call 147;refine(iM HC2.out.mw.c s o _).mono ?_;rintro e w3 ⟨rfl,hb3⟩;have aT:=bt.below hb3;have bL:=XAA (HC2.out.below hb3);have s2:=aT.cell 2;have f2:=aT.frozen 2;rw [show(bD { aO with ar:=3,aj:=x })[2]? =I 0 from rfl] at s2;have s16:=aT.cell 16;have f16:=aT.frozen 16;rw [show(bD { aO with ar:=3,aj:=x })[16]? =I 0 from rfl] at s16;have lz3:=aT.lt)|(go_at_call 146;with_reducible refine Xr (oQ HC2.out s) ?_));refine bg λW hW=>?_;have KT:ak W w1.heap.size 210 (bD { aO with ar:=3,aj:=x,pc:=70,fr:=s }):=by rw [hW];exact((bt.aJ 2 (I 70)).aJ 16 (I s))
 have hR:Rws [tm] w W:=by rw [hW];exact(Rws.far (p:=⟨w1.heap.size,16,none⟩) (Rws.far (p:=⟨w1.heap.size,2,none⟩) (Rws.of_below [tm] (bB hb1 hb2)) (XCg lz) (I 70)) (XCg lz) (I s))
 have hC:aP W b mb g tm c ws n Q q:=by rw [hW];exact((HC2.out.rP (p:=⟨w1.heap.size,2,none⟩) (XAB _) (XAg l1 lz) (XAg l2 lz) (XAg l3 lz) (XAg l4 lz) (I 70)).rP (p:=⟨w1.heap.size,16,none⟩) (XAB _) (XAg l1 lz) (XAg l2 lz) (XAg l3 lz) (XAg l4 lz) (I s))
 have e_:=XAA hC;have HRW:=XAA hR;have d7:W.cell? (b,7)=some (.map (some tm)):=hC.blk.cell 7;have lw:=KT.lt;have sz:=hR.size;have lb:b<W.heap.size:=qd
 have HT:Hid (ku c (cU Q x (some { aO with ar:=3,aj:=x,pc:=70,fr:=s }))):=XAA (hC.tk.put (cR.begun 70 R R qf) R R hx);have hk:=sg hC.mw.c hx;clear hW hC hR;(refine bN 6 (W.heap.size) ?_;intro hxc aA hxh hxn;simp only [List.take,List.drop];(repeat (first|(refine wY rfl _ rfl rfl { aO with ar:=3,aj:=x,pc:=70,fr:=s } (λV hV=>qcx) ?_)|go_big_quiet_step (fail)|quiet_step (fail)));refine XAG ?_;clear hxc aA hxh hxn;intro w1 hb1 hz1 hc1 hf1);have jH:=e_.out.below hb1;have bL:=XAA jH;clear jH hc1 hf1 d7;go_wp2_with (at_mapUpdate;refine ju R 251 _ _ _ R gX oe R bL.out.mp qw x { aO with ar:=3,aj:=x,pc:=70,fr:=s } R R hk ?_;intro w5 eD dH);go_ret;exact⟨R,bL.out.mapped eD (hU dH) HT.out,(HRW.out.yi hb1).trans (hU dH).rws⟩
theorem Sv(w:World)(h:aP w b mb g tm c ws n Q q)(hq:q<=1000000)(x:Int)(hx:0<=x/\x<c.C)(s o:Int)(hQ:Q x=none):Z 107 #[(b,0),I x,I 4,I s,I o] w λe w'=>e=.returned (I 0)/\aP w' b mb g tm c ws n (cU Q x (some { aO with ar:=4,aj:=x,pc:=95 })) (q+1)/\Rws [tm] w w':=by
 obtain⟨l1,l2,l3,l4⟩:=h.bj;have c7:w.cell? (b,7)=some (.map (some tm)):=h.blk.cell 7;have hlk:=h.look hx w rfl;rw [hQ] at hlk;have HC:=XAA h;have BR:=ak.new w 210 aQ;dsimp only [aQ] at BR;clear h hQ;go_enter func107,ntmps107;go_wp2_with (first|(go_at_call 146;with_reducible refine Xr (oR HC.out x hx) ?_)|(refine bn R _ _ R R aO R BR R ?_;intro w1 ho1 nQ;have dB:=HC.out.below (aI ((XAC _ w).alloc (XAB _) _) ho1 (XAB _));have bK:=XAA dB;have d7:w1.cell? (b,7)=some (.map (some tm)):=dB.blk.cell 7;have z1:w1.heap.size=w.heap.size+1:=qfa;have hb1:=aI ((XAC _ w).alloc (XAB _) _) ho1 (XAB _);have HZ:=XAA z1;have lz:w.heap.size<w1.heap.size:=qd;clear z1 dB hlk)|(refine bn R _ _ R R { aO with ar:=4,aj:=x } R (ak.new w1 210 aQ) R ?_;intro w2 ho2 bt;have hC2:=bK.out.below (aI ((XAC _ w1).alloc (XAB _) _) ho2 (XAB _));obtain⟨e0,e1,e2,e3,e4,e5⟩:=hC2.nq;have HC2:=XAA hC2;have hb2:=aI ((XAC _ w1).alloc (XAB _) _) ho2 (XAB _);have s2:=bt.cell 2;have f2:=bt.frozen 2;rw [show(bD { aO with ar:=4,aj:=x })[2]? =I 0 from rfl] at s2;have lz2:=bt.lt;clear hC2)|(go_at_call 147;refine(iM HC2.out.mw.c s o _).mono ?_;rintro e w3 ⟨rfl,hb3⟩;have aT:=bt.below hb3;have bL:=XAA (HC2.out.below hb3);have s2:=aT.cell 2;have f2:=aT.frozen 2;rw [show(bD { aO with ar:=4,aj:=x })[2]? =I 0 from rfl] at s2;have lz3:=aT.lt)|(go_at_call 146;with_reducible refine Xr (oQ HC2.out s) ?_));refine bg λW hW=>?_;have KT:ak W w1.heap.size 210 (bD { aO with ar:=4,aj:=x,pc:=95 }):=by rw [hW];exact(bt.aJ 2 (I 95))
 have hR:Rws [tm] w W:=by rw [hW];exact(Rws.far (p:=⟨w1.heap.size,2,none⟩) (Rws.of_below [tm] (bB hb1 hb2)) (XCg lz) (I 95))
 have hC:aP W b mb g tm c ws n Q q:=by rw [hW];exact(HC2.out.rP (p:=⟨w1.heap.size,2,none⟩) (XAB _) (XAg l1 lz) (XAg l2 lz) (XAg l3 lz) (XAg l4 lz) (I 95))
 have e_:=XAA hC;have HRW:=XAA hR;have d7:W.cell? (b,7)=some (.map (some tm)):=hC.blk.cell 7;have lw:=KT.lt;have sz:=hR.size;have lb:b<W.heap.size:=qd
 have HT:Hid (ku c (cU Q x (some { aO with ar:=4,aj:=x,pc:=95 }))):=XAA (hC.tk.put (cR.begun 95 R R qf) R R hx);have hk:=sg hC.mw.c hx;clear hW hC hR;(refine bN 6 (W.heap.size) ?_;intro hxc aA hxh hxn;simp only [List.take,List.drop];(repeat (first|(refine wY rfl _ rfl rfl { aO with ar:=4,aj:=x,pc:=95 } (λV hV=>qcx) ?_)|go_big_quiet_step (fail)|quiet_step (fail)));refine XAG ?_;clear hxc aA hxh hxn;intro w1 hb1 hz1 hc1 hf1);have jH:=e_.out.below hb1;have bL:=XAA jH;clear jH hc1 hf1 d7;go_wp2_with (at_mapUpdate;refine ju R 251 _ _ _ R gX oe R bL.out.mp qw x { aO with ar:=4,aj:=x,pc:=95 } R R hk ?_;intro w5 eD dH);go_ret;exact⟨R,bL.out.mapped eD (hU dH) HT.out,(HRW.out.yi hb1).trans (hU dH).rws⟩
theorem Sr(w:World)(h:aP w b mb g tm c ws n Q q)(x:Int)(hx:0<=x/\x<c.C)(s o:Int)(hQ:Q x=none)(hl:eK c s o<0):Z 107 #[(b,0),I x,I 2,I s,I o] w λe w'=>e=.returned (I 9)/\Below w w w':=by
 obtain⟨l1,l2,l3,l4⟩:=h.bj;have c7:w.cell? (b,7)=some (.map (some tm)):=h.blk.cell 7;have hlk:=h.look hx w rfl;rw [hQ] at hlk;have HC:=XAA h;have BR:=ak.new w 210 aQ;dsimp only [aQ] at BR;clear h hQ;go_enter func107,ntmps107;go_wp2_with (first|(go_at_call 146;with_reducible refine Xr (oR HC.out x hx) ?_)|(refine bn R _ _ R R aO R BR R ?_;intro w1 ho1 nQ;have dB:=HC.out.below (aI ((XAC _ w).alloc (XAB _) _) ho1 (XAB _));have bK:=XAA dB;have d7:w1.cell? (b,7)=some (.map (some tm)):=dB.blk.cell 7;have z1:w1.heap.size=w.heap.size+1:=qfa;have hb1:=aI ((XAC _ w).alloc (XAB _) _) ho1 (XAB _);have HZ:=XAA z1;have lz:w.heap.size<w1.heap.size:=qd;clear z1 dB hlk)|(refine bn R _ _ R R { aO with ar:=2,aj:=x } R (ak.new w1 210 aQ) R ?_;intro w2 ho2 bt;have hC2:=bK.out.below (aI ((XAC _ w1).alloc (XAB _) _) ho2 (XAB _));obtain⟨e0,e1,e2,e3,e4,e5⟩:=hC2.nq;have HC2:=XAA hC2;have hb2:=aI ((XAC _ w1).alloc (XAB _) _) ho2 (XAB _);have lz2:=bt.lt;clear hC2)|(go_at_call 147;refine(iM HC2.out.mw.c s o _).mono ?_;rintro e w3 ⟨rfl,hb3⟩;have aT:=bt.below hb3;have bL:=XAA (HC2.out.below hb3);have lz3:=aT.lt)|(go_at_call 146;with_reducible refine Xr (oQ HC2.out s) ?_));go_ret;exact⟨R,bB hb1 (bB hb2 hb3)⟩
theorem Su(w:World)(h:aP w b mb g tm c ws n Q q)(x:Int)(hx:0<=x/\x<c.C)(s o:Int)(hQ:Q x=none)(hs:¬(0<=s/\s<c.C)):Z 107 #[(b,0),I x,I 3,I s,I o] w λe w'=>e=.returned (I 9)/\Below w w w':=by
 obtain⟨l1,l2,l3,l4⟩:=h.bj;have c7:w.cell? (b,7)=some (.map (some tm)):=h.blk.cell 7;have hlk:=h.look hx w rfl;rw [hQ] at hlk;have HC:=XAA h;have BR:=ak.new w 210 aQ;dsimp only [aQ] at BR;clear h hQ;go_enter func107,ntmps107;go_wp2_with (first|(go_at_call 146;with_reducible refine Xr (oR HC.out x hx) ?_)|(refine bn R _ _ R R aO R BR R ?_;intro w1 ho1 nQ;have dB:=HC.out.below (aI ((XAC _ w).alloc (XAB _) _) ho1 (XAB _));have bK:=XAA dB;have d7:w1.cell? (b,7)=some (.map (some tm)):=dB.blk.cell 7;have z1:w1.heap.size=w.heap.size+1:=qfa;have hb1:=aI ((XAC _ w).alloc (XAB _) _) ho1 (XAB _);have HZ:=XAA z1;have lz:w.heap.size<w1.heap.size:=qd;clear z1 dB hlk)|(refine bn R _ _ R R { aO with ar:=3,aj:=x } R (ak.new w1 210 aQ) R ?_;intro w2 ho2 bt;have hC2:=bK.out.below (aI ((XAC _ w1).alloc (XAB _) _) ho2 (XAB _));obtain⟨e0,e1,e2,e3,e4,e5⟩:=hC2.nq;have HC2:=XAA hC2;have hb2:=aI ((XAC _ w1).alloc (XAB _) _) ho2 (XAB _);have lz2:=bt.lt;clear hC2)|(go_at_call 147;refine(iM HC2.out.mw.c s o _).mono ?_;rintro e w3 ⟨rfl,hb3⟩;have aT:=bt.below hb3;have bL:=XAA (HC2.out.below hb3);have lz3:=aT.lt)|(go_at_call 146;with_reducible refine Xr (oQ HC2.out s) ?_));go_ret;exact⟨R,bB hb1 hb2⟩
theorem Sw(w:World)(h:aP w b mb g tm c ws n Q q)(x:Int)(hx:0<=x/\x<c.C)(s o j:Int)(hQ:Q x=none)(j1:j≠1)(j2:j≠2)(j3:j≠3)(j4:j≠4):Z 107 #[(b,0),I x,I j,I s,I o] w λe w'=>e=.returned (I 2)/\Below w w w':=by
 obtain⟨l1,l2,l3,l4⟩:=h.bj;have c7:w.cell? (b,7)=some (.map (some tm)):=h.blk.cell 7;have hlk:=h.look hx w rfl;rw [hQ] at hlk;have HC:=XAA h;have BR:=ak.new w 210 aQ;dsimp only [aQ] at BR;have k1:(j==1)=false:=by simpa using j1
 have k2:(j==2)=false:=by simpa using j2
 have k3:(j==3)=false:=by simpa using j3
 have k4:(j==4)=false:=by simpa using j4
 clear j1 j2 j3 j4;clear h hQ;go_enter func107,ntmps107;go_wp2_with (first|(go_at_call 146;with_reducible refine Xr (oR HC.out x hx) ?_)|(refine bn R _ _ R R aO R BR R ?_;intro w1 ho1 nQ;have dB:=HC.out.below (aI ((XAC _ w).alloc (XAB _) _) ho1 (XAB _));have bK:=XAA dB;have d7:w1.cell? (b,7)=some (.map (some tm)):=dB.blk.cell 7;have z1:w1.heap.size=w.heap.size+1:=qfa;have hb1:=aI ((XAC _ w).alloc (XAB _) _) ho1 (XAB _);have HZ:=XAA z1;have lz:w.heap.size<w1.heap.size:=qd;clear z1 dB hlk)|(refine bn R _ _ R R { aO with ar:=j,aj:=x } R (ak.new w1 210 aQ) R ?_;intro w2 ho2 bt;have hC2:=bK.out.below (aI ((XAC _ w1).alloc (XAB _) _) ho2 (XAB _));obtain⟨e0,e1,e2,e3,e4,e5⟩:=hC2.nq;have HC2:=XAA hC2;have hb2:=aI ((XAC _ w1).alloc (XAB _) _) ho2 (XAB _);have lz2:=bt.lt;clear hC2)|(go_at_call 147;refine(iM HC2.out.mw.c s o _).mono ?_;rintro e w3 ⟨rfl,hb3⟩;have aT:=bt.below hb3;have bL:=XAA (HC2.out.below hb3);have lz3:=aT.lt)|(go_at_call 146;with_reducible refine Xr (oQ HC2.out s) ?_));go_ret;exact⟨R,bB hb1 hb2⟩
end
section
variable{w w':World}{b mb g tm:Nat}{c:Ch}{ws:List Nat}{n:Nat}{Q:Int->Option Tk}{q:Nat}
structure Gn(w:World):Prop where
 blk:iD w
def sI(i:Int):FuncId:=if i=0 then 154 else if i=1 then 155 else if i=2 then 156 else 157
theorem SC(i:Int)(h0:0<=i)(h4:i<4)(W:World):(Instr.index 260 (.agg #[.func (.func 154) #[] #[],.func (.func 155) #[] #[],.func (.func 156) #[] #[],.func (.func 157) #[] #[]]) (I i)).run prog W=.ok (.func (.func (sI i)) #[] #[]) W:=by
 rcases (by omega:i=0\/i=1\/i=2\/i=3) with rfl|rfl|rfl|rfl<;>kernel_rfl
theorem aaK(i:Int)(args:Array Value)(W:World):(callFunc (sI i) args).run prog W=.ok (.enter (sI i) args) W:=by
 unfold sI;split
 .exact enters_of func154 qh R args W
 .split
  .exact enters_of func155 qh R args W
  .split
   .exact enters_of func156 qh R args W
   .exact enters_of func157 qh R args W
def stP(i:Int)(pc:Int):Prop:=if i=0 then jE pc else if i=1 then gz pc else if i=2 then 50<=pc/\pc<=68 else tO pc
theorem Lq{W:World}{p:Nat}{cs:Array Value}(t:Tk)(hb:ak W p 210 cs)(hz:cs.size=17):∃w4,(storeCells ⟨p,0,none⟩ (bD t).toList).run prog W=.ok () w4/\Only p W w4/\ak w4 p 210 (bD t):=by
 have ht:W.there p 0 (bD t).toList.length:=λj hj=>by have hj':j<17:=hj;rw [XAV,hb.cell,Array.getElem?_eq_getElem qd];exact⟨R,hb.frozen _⟩
 have hr:=run_storeCells_cells (P:=prog) p 0 (bD t).toList 0 W (λj hj=>by simpa using (ht j hj).1) (λj hj=>by simpa using (ht j hj).2) (λv hv=>by
  have h1:(bD t).all (·.oneCell')=true:=by simp [bD,Value.oneCell']
  exact(XB8.1 h1) v (by simpa using hv))
 obtain⟨k1,cs',k2,k3,k4⟩:=DZ p 210 (bD t).toList 0 W cs hb (by show 0+17<=cs.size;omega);have e:cs'=bD t:=by
  apply XDO;intro j;rw [k4];by_cases hj:j<17
  .rw [XAE ⟨XAJ _,by show j<0+17;omega⟩];simp
  .rw [XAD (by intro h;have:j<0+17:=h.2;omega),XAz qd,XAz (by show 17<=j;omega)]
 rw [e] at k2;exact⟨_,hr,k1,k2⟩
theorem Si{α β γ:Type}{A:α->β->γ->World->Prop}{G:Prop}{P:α->β->γ->World->Prop}(main:(∀x y z v,A x y z v->P x y z v)->G)(next:∀x y z v,A x y z v->P x y z v):G:=main next
theorem tB{w':World}{tb:Nat}{t:Tk}(h:aP w' b mb g tm c ws n Q q)(k:ak w' tb 210 (bD t)):w'.cell? (b,0)=I c.C/\w'.cell? (b,1)=I 32/\w'.cell? (b,2)=I c.O/\w'.cell? (b,3)=I 1/\w'.cell? (b,4)=I 2/\w'.cell? (b,5)=J c.key/\w'.cell? (b,6)=some (.pointer (mb,0))/\w'.cell? (tb,0)=I t.ar/\w'.cell? (tb,1)=I t.aj/\w'.cell? (tb,2)=I t.pc/\w'.cell? (tb,3)=I t.az/\w'.cell? (tb,4)=I t.aB/\w'.cell? (tb,5)=I t.ai/\w'.cell? (tb,6)=I t.aq/\w'.cell? (tb,7)=J t.H/\w'.cell? (tb,8)=J t.T/\w'.cell? (tb,9)=J t.F/\w'.cell? (tb,10)=J t.K/\w'.cell? (tb,11)=J t.N/\w'.cell? (tb,12)=I t.au/\w'.cell? (tb,13)=I t.ay/\w'.cell? (tb,14)=I t.to/\w'.cell? (tb,15)=I t.aw/\w'.cell? (tb,16)=I t.fr:=
 ⟨h.blk.cell 0,h.blk.cell 1,h.blk.cell 2,h.blk.cell 3,h.blk.cell 4,h.blk.cell 5,h.blk.cell 6,k.cell 0,k.cell 1,k.cell 2,k.cell 3,k.cell 4,k.cell 5,k.cell 6,k.cell 7,k.cell 8,k.cell 9,k.cell 10,k.cell 11,k.cell 12,k.cell 13,k.cell 14,k.cell 15,k.cell 16⟩
theorem aP.stepped(h:aP w b mb g tm c ws n Q q){ws':List Nat}{n':Nat}(hm:MW w' mb g c ws' n')(hr:Rws [mb,g] w w'):aP w' b mb g tm c ws' n' Q q:=
 ⟨h.blk.rws hr (by simp [h.nb.1,h.nb.2.1]),hm,h.mp.heap (hr.block _ h.mp.lt (by simp [h.nt.1,h.nt.2])),h.nb,h.nt,h.tk⟩
def xV(i:Int)(t:Tk)(mb g:Nat)(c:Ch)(ws:List Nat)(n:Nat)(w:World)(e:Ending)(w':World):Prop:=
 ∃(t':Tk)(er:Int)(ws':List Nat)(n':Nat),e=.returned (.tuple #[.agg (bD t'),I er])/\MW w' mb g c ws' n'/\n'<=n+3/\Rws [mb,g] w w'/\((er=0/\t'.aj=t.aj/\(t'.az=0->cR t')/\m6 c t ws n t' ws' n')\/(er=292/\ws'=ws/\n'=n/\Below w w w'/\¬stP i t.pc))
theorem acD{w:World}{mb g:Nat}{c:Ch}{ws:List Nat}{n:Nat}(i:Int)(hi0:0<=i)(hi4:i<4)(t:Tk)(hM:MW w mb g c ws n)(hn:n<=999000)(hG:fD w w.heap.size mb g)(ht:cR t)(h0:t.az=0)(h1:t.aB=0)(hp0:1<=i->¬jE t.pc)(hp1:2<=i->¬gz t.pc):
  Z (sI i) #[(mb,0),dh c,aH t] w (xV i t mb g c ws n w):=by
 have yes:∀{e w'},xW t mb g c ws n w e w'->xV i t mb g c ws n w e w':=λ{e w'} h=>by obtain⟨t',ws',n',h2,h3,h4,h5,h6,h7,h8⟩:=h;exact⟨t',0,ws',n',h2,h3,h4,h5,.inl ⟨R,h6,h7,h8⟩⟩
 have no:∀{e w'},¬stP i t.pc->(e=.returned (.tuple #[aH aO,I 292])/\Below w w w')->xV i t mb g c ws n w e w':=λ{e w'} hp h=>⟨aO,292,ws,n,h.1,hM.below h.2,qd,Rws.of_below _ h.2,.inr ⟨R,R,R,h.2,hp⟩⟩;rcases (by omega:i=0\/i=1\/i=2\/i=3) with rfl|rfl|rfl|rfl
 .by_cases hp:jE t.pc
  .exact(Ut w hM hn t ht h0 h1 hp).mono λ_ _ h=>yes h
  .exact(Us w hM t h0 h1 (by unfold jE at hp;omega)).mono λ_ _ h=>no hp h
 .by_cases hp:gz t.pc
  .exact(TY w hM hn hG t ht h0 h1 hp).mono λ_ _ h=>yes h
  .exact(TW w hM t ht.ok h0 h1 hp).mono λ_ _ h=>no hp h
 .by_cases hp:50<=t.pc/\t.pc<=68
  .exact(Qo w hM hn t ht h0 h1 hp).mono λ_ _ h=>yes (Ma (ws:=ws) h (hp0 qd) (hp1 qd))
  .exact(Qn w hM hn t ht h0 h1 hp).mono λ_ _ h=>no hp h
 .by_cases hp:tO t.pc
  .exact(UO w hM hn t ht h0 h1 hp).mono λ_ _ h=>yes (Ma (ws:=ws) h (hp0 qd) (hp1 qd))
  .exact(UN w hM hn t ht h0 h1 hp).mono λ_ _ h=>no hp h
structure EC(i:Int)(b mb g tm:Nat)(c:Ch)(ws:List Nat)(n:Nat)(Q:Int->Option Tk)(q:Nat)(t:Tk)(w wr:World)(t':Tk)(er:Int)(tb2:Nat)(w4:World):Prop where
 kt:ak w4 tb2 210 (bD t')
 kr:ak w4 w.heap.size 210 aQ
 fr:Rws [mb,g] wr w4
 or:(er=0/\t'.aj=t.aj/\(t'.az=0->cR t')/\∃ws' n',aP w4 b mb g tm c ws' n' Q q/\n'<=n+3/\m6 c t ws n t' ws' n')\/(er=292/\Below wr wr w4/\¬stP i t.pc)
theorem GY{i:Int}{t t':Tk}{er:Int}{wr w1 w3 w3' w4:World}{p:Nat}{ws':List Nat}{n':Nat}(hC:aP wr b mb g tm c ws n Q q)(kr:ak wr w.heap.size 210 aQ)(hnr:w.heap.size∉ [mb,g])(h1:Below wr wr w1)(hM:MW w3 mb g c ws' n')(hn3:n'<=n+3)(hr:Rws [mb,g] w1 w3)
 (h3:Below w3 w3 w3')(ho:Only p w3' w4)(hp:wr.heap.size<=p)(kt:ak w4 p 210 (bD t'))(hcp:(er=0/\t'.aj=t.aj/\(t'.az=0->cR t')/\m6 c t ws n t' ws' n')\/(er=292/\ws'=ws/\n'=n/\Below w1 w1 w3/\¬stP i t.pc)):
  EC i b mb g tm c ws n Q q t w wr t' er p w4/\∀tb,ak wr tb 210 (bD t)->tb∉ [mb,g]->aP w4 b mb g tm c ws' n' Q q/\ak w4 tb 210 (bD t):=by
 obtain⟨l1,l2,l3,l4⟩:=hC.bj;have jH:=(hC.below h1).stepped hM hr;have rU:=(jH.below h3).only ho qd;have fr:Rws [mb,g] wr w4:=Rws.only (Rws.trans (Rws.trans (Rws.of_below _ h1) hr) (Rws.of_below _ h3)) ho hp;refine⟨⟨kt,kr.rws fr hnr,fr,?_⟩,λtb k ht=>⟨rU,k.rws fr ht⟩⟩;rcases hcp with⟨e,h4,h5,h6⟩|⟨e,-,-,h5,h6⟩
 .exact .inl ⟨e,h4,h5,ws',n',rU,hn3,h6⟩
 .have s1:=h1.size;have s3:=h5.size;exact .inr ⟨e,aI ((h1.trans (h5.mono s1)).trans (h3.mono qd)) ho hp,h6⟩
def ME(w:World)(b mb g tm:Nat)(c:Ch)(ws:List Nat)(n:Nat)(Q:Int->Option Tk)(q:Nat)(t:Tk)(e:Ending)(w':World):Prop:=
 ∃(t':Tk)(ws':List Nat)(n':Nat),e=.returned (.tuple #[aH t',I 0])/\aP w' b mb g tm c ws' n' (fW Q t') (q+1)/\n'<=n+3/\Rws [tm,mb,g] w w'/\t'.aj=t.aj/\m6 c t ws n t' ws' n'
theorem SA(w:World)(h:aP w b mb g tm c ws n Q q)(hgn:Gn w)(hz:0≠mb/\0≠g)(hq:q<=1000000)(hn:n<=999000)(x:Int)(hx:0<=x/\x<c.C)(t:Tk)(hQ:Q x=some t)(hw:t.aB=0):
  Z 110 #[(b,0),I x] w (ME w b mb g tm c ws n Q q t):=by
 obtain⟨l1,l2,l3,l4⟩:=h.bj;have⟨ht,h0,gQ⟩:=h.has hx hQ;have h1:=hw;have HC:=XAA h;have HG:=XAA hgn;have HX:=XAA gQ;have BR:=ak.new w 210 aQ;dsimp only [aQ] at BR;have hxc:0<=t.aj/\t.aj<c.C:=qjn
 have oI:=XAA hxc;have ki:=XAA (yt (w.alloc (.cells aQ 210)) (h.alloc _) x hx t 0 hQ hw);dsimp only [aQ] at ki;have HT:=XAA ht;have H0:=XAA h0;have H1:=XAA hw;clear h hgn gQ hQ hw hxc ht h0 h1;go_enter func110,ntmps110;go_wp2_with (first|(go_at_call 153;refine ki.out.mono ?_;rintro e w1 ⟨rfl,hb1⟩;have mM:=BR.below hb1;have HB1:=XAA hb1;clear hb1)|(refine bn R _ _ R R t R (ak.new w1 210 aQ) R ?_;intro w2 ho2 bt;have fH:=XAA ho2;clear ho2));have z0:(w.alloc (.cells aQ 210)).heap.size=w.heap.size+1:=ql
 dsimp only [aQ] at z0;have CF:Below w w w1:=((XAC _ w).alloc (XAB _) _).trans (HB1.out.mono qd);have s1:=CF.size;have s1':w.heap.size<w1.heap.size:=by have:=HB1.out.size;omega
 have hbw2:Below w1 w1 w2:=aI ((XAC _ w1).alloc (XAB _) _) fH.out (XAB _);have hb2:Below w w w2:=CF.trans (hbw2.mono s1);have KT:=XAA bt;have KR:=XAA (mM.below hbw2);have HC2:=XAA (HC.out.below hb2);have HG2:Hid (Gn w2):=XAA ⟨HG.out.blk.below hb2⟩;have HW2:=XAA hb2;have jN:=bt.lt;clear bt mM BR HC HG ki HB1 fH CF hbw2 hb2 z0 s1;obtain⟨tb,htb⟩:=Xq w1.heap.size;rw [htb] at KT jN s1' ⊢;clear htb;go_loopw [9,10,11,23,26] (λ_ _ _ z _ wr=>∃i:Int,z=I i/\0<=i/\i<=4/\(1<=i->¬jE t.pc)/\(2<=i->¬gz t.pc)/\(3<=i->¬(50<=t.pc/\t.pc<=68))/\(4<=i->¬tO t.pc)/\Below w2 w2 wr) (λ_ _ _ z _ _=>(4-intOf z).toNat)
 case atStart=>exact⟨0,R,qd,qd,λh=>qd,λh=>qd,λh=>qd,λh=>qd,XAC _ _⟩
 case round=>
  obtain⟨i,rfl,hi0,hi4,hn0,hn1,hn2,hn3,hb⟩:=hrel;have mc:=XAA hn0;have kd:=XAA hn1;have jy:=XAA hn2;have eb:=XAA hn3;have eQ:=XAA hb;have e_:=XAA (HC2.out.below hb);have AF:Hid (fD wr wr.heap.size mb g):=XAA ⟨HG2.out.blk.below hb,qjb,hz.1,hz.2⟩;obtain⟨d0,d1,d2,d3,d4,d5⟩:=(HC2.out.below hb).nq;have d6:wr.cell? (b,6)=some (.pointer (mb,0)):=(HC2.out.below hb).blk.cell 6;have lb:=(HC2.out.below hb).blk.lt;have tl:=KT.out.below hb;have AZ:=KR.out.below hb;have lt:=tl.lt;clear hn0 hn1 hn2 hn3 hb;by_cases hlt:i<4
  .have hix:=SC i hi0 hlt;have hfn:=aaK i;have hS:∀W,Below wr wr W->Z (sI i) #[(mb,0),dh c,aH t] W (xV i t mb g c ws n W):=λW hb=>by
    have e_:=XAA (e_.out.below hb);exact acD i hi0 hlt t e_.out.mw hn ⟨AF.out.blk.below hb,qjb,hz.1,hz.2⟩ HT.out H0.out H1.out mc.out kd.out
   have xC:Hid (tb∉ [mb,g]):=XAA qj;have E9:Hid (w.heap.size∉ [mb,g]):=XAA qj;have uR:Hid (wr.heap.size∉ [mb,g]):=XAA qj;have sW:Hid (Below wr wr (wr.alloc (.cells aQ 210)).drew):=XAA ((XAC wr.heap.size wr).alloc (XAB _) _).drew;dsimp only [aQ] at sW;have HS:=XAA hS;have ry:=XAA tl;have Fw:=XAA AZ;have HI0:=XAA hi0;clear hS d0 d1 d2 d3 d4 d5 d6 tl AZ hi0 hi4;generalize sI i=f at*;go_wp2;clear hix;apply Si (A:=λ(t':Tk) (er:Int) (tb2:Nat) w4=>EC i b mb g tm c ws n Q q t w wr t' er tb2 w4)
   .intro hnext
    go_region_held3 (λw'=>w'.cell? (b,0)=I c.C/\w'.cell? (b,1)=I 32/\w'.cell? (b,2)=I c.O/\w'.cell? (b,3)=I 1/\w'.cell? (b,4)=I 2/\w'.cell? (b,5)=J c.key/\w'.cell? (b,6)=some (.pointer (mb,0))/\w'.cell? (tb,0)=I t.ar/\w'.cell? (tb,1)=I t.aj/\w'.cell? (tb,2)=I t.pc/\w'.cell? (tb,3)=I t.az/\w'.cell? (tb,4)=I t.aB/\w'.cell? (tb,5)=I t.ai/\w'.cell? (tb,6)=I t.aq/\w'.cell? (tb,7)=J t.H/\w'.cell? (tb,8)=J t.T/\w'.cell? (tb,9)=J t.F/\w'.cell? (tb,10)=J t.K/\w'.cell? (tb,11)=J t.N/\w'.cell? (tb,12)=I t.au/\w'.cell? (tb,13)=I t.ay/\w'.cell? (tb,14)=I t.to/\w'.cell? (tb,15)=I t.aw/\w'.cell? (tb,16)=I t.fr) (first|exact tB e_.out ry.out|exact tB e_.out.drew ry.out|exact tB ((e_.out.alloc _).drew) ((ry.out.alloc _).drew)|exact tB bL.out gH.out|exact tB (bL.out.alloc _) (gH.out.alloc _)|exact tB (HL.out.2 tb ry.out xC.out).1 (HL.out.2 tb ry.out xC.out).2) (first
     |((with_reducible refine(HS.out _ (XAC wr.heap.size wr).drew).mono ?_);rintro e w3 ⟨t',er,ws',n',rfl,vH,hn3,hr3,hcp⟩;have bL:=XAA (e_.out.drew.stepped vH hr3);have gH:=XAA (ry.out.drew.rws hr3 xC.out);obtain⟨w4,hst,gU,dN⟩:=Lq t' (ak.new w3 210 aQ) rfl;dsimp only [aQ] at hst;have HL:=XAA (GY (w:=w) e_.out Fw.out E9.out ((XAC wr.heap.size wr).drew) vH hn3 hr3 ((XAC w3.heap.size w3).alloc (XAB _) _) gU hr3.size dN hcp);clear gU dN)
     |((with_reducible refine(HS.out _ sW.out).mono ?_);rintro e w3 ⟨t',er,ws',n',rfl,vH,hn3,hr3,hcp⟩;have bL:=XAA (((e_.out.alloc _).drew).stepped vH hr3);have gH:=XAA (((ry.out.alloc _).drew).rws hr3 xC.out);have Fu:=(ak.new wr 210 aQ).drew.rws hr3 uR.out;obtain⟨w4,hst,gU,dN⟩:=Lq t' Fu rfl;have HL:=XAA (GY (w:=w) e_.out Fw.out E9.out sW.out vH hn3 hr3 (XAC w3.heap.size w3) gU (XAB _) dN hcp);clear gU dN Fu))
    .have hl:=HL.out.1;generalize w3.heap.size=tb2 at hl ⊢;exact hnext t' er tb2 w4 hl
    .have hl:=HL.out.1;generalize wr.heap.size=tb2 at hl ⊢;exact hnext t' er tb2 w4 hl
   .intro t' er tb2 w4 hL;have dN:=hL.kt;have HK:=XAA hL.kr;have HF:=XAA hL.fr;have zr:=hL.fr.size;have z2:=eQ.out.size;have zw:=HW2.out.size;rcases hL.or with⟨rfl,h4,h5,ws',n',rU,hn4,hex⟩|⟨rfl,hb4,hnp⟩
    .have ln:=XAA rU;have lp:=XAA h5;have EO:=XAA h4;have HEX:=XAA hex;clear hL h4 h5 rU hex;go_wp2_with (first|(go_at_call 158;refine(vm _ ln.out hq t' (by rw [EO.out];exact oI.out) lp.out).mono ?_;rintro e w5 ⟨rfl,jd,dX⟩;have z5:=dX.size;have AY:=HK.out.rws dX qj;have gy:=XAA jd;have fk:=XAA dX;clear jd dX)|(refine iC R _ R R t' dN ?_)|(refine bn rfl _ _ rfl rfl t' rfl AY rfl ?_;intro w6 cD dZ));refine XAI (v:=.tuple #[aH t',I 0]) (dc rfl _ _ qu qu (cn 210 dZ XAQ rfl (fC.trans rfl))) rfl ?_;have a1:Rws [tm,mb,g] w wr:=(Rws.of_below _ HW2.out).trans (Rws.of_below _ eQ.out);have a2:Rws [tm,mb,g] wr w4:=⟨HF.out.os,HF.out.tape,HF.out.output,HF.out.size,λk hk hn=>HF.out.block k hk qkm⟩;have a3:Rws [tm,mb,g] w4 w5:=⟨fk.out.os,fk.out.tape,fk.out.output,fk.out.size,λk hk hn=>fk.out.block k hk qkm⟩;exact⟨t',ws',n',R,gy.out.only cD qd,hn4,((a1.trans a2).trans a3).only cD (XAB _),EO.out,HEX.out⟩
    .have HB4:=XAA hb4;have xB:=XAA hnp;clear hL hb4 hnp;go_wp2;go_roundw
     case rel=>
      have hnp:=xB.out;have h0:=HI0.out;have c0:=mc.out;have c1:=kd.out;have c2:=jy.out;refine⟨i+1,XAK (Value.int .i64) (XBZ _ qd),qd,qd,λh=>?_,λh=>?_,λh=>?_,λh=>?_,eQ.out.trans (HB4.out.mono z2)⟩
      .by_cases e:i=0
       .unfold stP at hnp;rw [XAE e] at hnp;exact hnp
       .exact c0 qd
      .by_cases e:i=1
       .unfold stP at hnp;rw [XAD qd,XAE e] at hnp;exact hnp
       .exact c1 qd
      .by_cases e:i=2
       .unfold stP at hnp;rw [XAD qd,XAD qd,XAE e] at hnp;exact hnp
       .exact c2 qd
      .unfold stP at hnp;rw [XAD qd,XAD qd,XAD qd] at hnp;exact hnp
     case measure=>
      have h0:=HI0.out;show(4-wrap64 (i+1)).toNat<(4-i).toNat;rw [XBZ _ qd];omega
  .obtain rfl:i=4:=by omega
   have t3:wr.cell? (tb,3)=I t.az:=tl.cell 3;have f3:=tl.frozen 3;have gH:ak (wr.setCell (tb,3) (I 3)) tb 210 (bD { t with az:=3 }):=tl.aJ 3 _;have bL:=XAA (e_.out.rP (p:=⟨tb,3,none⟩) (XAB tb) qd qd qd qd (I 3));have AX:ak (wr.setCell (tb,3) (I 3)) w.heap.size 210 aQ:=AZ.far (by show w.heap.size≠tb;omega) _;clear d0 d1 d2 d3 d4 d5 d6;have hok:({ t with az:=3 } :Tk).az=0->cR { t with az:=3 } :=λh=>qck
   have lp:=XAA hok;clear hok;go_wp2_with (first|(refine iC R _ R R { t with az:=3 } gH ?_)|(go_at_call 158;refine(vm _ bL.out hq { t with az:=3 } oI.out lp.out).mono ?_;rintro e w5 ⟨rfl,jd,dX⟩;have z5:=dX.size;simp only [World.setCell,Array.size_modify] at z5;have AY:=AX.rws dX qj;have gy:=XAA jd;have fk:=XAA dX;clear jd dX)|(refine bn rfl _ _ rfl rfl { t with az:=3 } rfl AY rfl ?_;intro w6 cD dZ));refine XAI (v:=.tuple #[aH { t with az:=3 },I 0]) (dc rfl _ _ qu qu (cn 210 dZ XAQ rfl (fC.trans rfl))) rfl ?_;have a1:Rws [tm,mb,g] w wr:=(Rws.of_below _ HW2.out).trans (Rws.of_below _ eQ.out);have a2:Rws [tm,mb,g] (wr.setCell (tb,3) (I 3)) w5:=⟨fk.out.os,fk.out.tape,fk.out.output,fk.out.size,λk hk hn=>fk.out.block k hk qkm⟩;exact⟨{ t with az:=3 },ws,n,R,gy.out.only cD qd,qd,((a1.far (p:=⟨tb,3,none⟩) (by show w.heap.size<=tb;omega) _).trans a2).only cD (XAB _),R,⟨λh=>absurd h (mc.out qd),λh=>absurd h (kd.out qd)⟩⟩
end
end Go.Proofs.YtedefgjfgdcfdaaGreatDoor
