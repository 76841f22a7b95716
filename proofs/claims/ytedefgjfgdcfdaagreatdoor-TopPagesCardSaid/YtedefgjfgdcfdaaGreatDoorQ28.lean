/- Walks and laws for TopPages. -/
import Derived.Test.YtedefgjfgdcfdaaGreatDoorQ24
import Derived.Test.YtedefgjfgdcfdaaGreatDoorQ16
import Derived.Deep.CutBlock
namespace Go.Proofs.YtedefgjfgdcfdaaGreatDoor
open Go.RowKit Go.Proofs.Tryz
set_option maxRecDepth 100000
set_option maxHeartbeats 4000000
theorem sf:prog.underlying 90=some (.map 3 3):=underlying90
theorem WR(W:World):(zeroValue 3).run prog W=.ok (I 0) W:=qh
def kj(t:Tk):Prop:=(t.aB=0/\(t.pc=43\/t.pc=44))\/t.pc=77\/t.pc=78
theorem uh{t:Tk}(h:cR t)(hm:kj t):0<=t.ai/\t.ai<32:=by
 rcases hm with⟨h0,h1⟩|h1
 .exact h.at_ (.inr ⟨h0,λhn=>by rcases h1 with e|e;exact hn.2.1 e;exact hn.2.2.1 e⟩)
 .rcases h.aB with h0|h0|h0
  .exact h.at_ (.inr ⟨h0,λhn=>by rcases h1 with e|e;exact hn.1 e;exact hn.2.2.2 e⟩)
  .have:=h.one h0;omega
  .exact h.at_ (.inl h0)
theorem eh.cnt_le{α:Type}{mk:α->Value}{P:Program}{k:TypeId}{w:World}{b r n cnt:Nat}{F:Int->Option α}{left:Int->Bool}(h:eh mk P k w b r n F left cnt):cnt<=n:=by
 obtain⟨D,lf,⟨es,clock,since,seen,c0,hb,F1,hs,hD,hr,hb2,hl,-⟩,-⟩:=h;rw [<-hl];exact XAL (by exact Array.size_filter_le ..) hs
theorem eh.below_{α:Type}{mk:α->Value}{P:Program}{k:TypeId}{w w':World}{b r n cnt:Nat}{F:Int->Option α}{left:Int->Bool}(h:eh mk P k w b r n F left cnt)(hb:Below w w w'):eh mk P k w' b r n F left cnt:=h.kept (hb.block b h.owns.lt) (hb.block r h.lt)
theorem eh.kS{α:Type}{mk:α->Value}{P:Program}{k:TypeId}{w w':World}{b r n cnt x:Nat}{F:Int->Option α}{left:Int->Bool}(h:eh mk P k w b r n F left cnt)(ho:Only x w w')(h1:b≠x)(h2:r≠x):eh mk P k w' b r n F left cnt:=h.kept (ho.block b h1) (ho.block r h2)
theorem tP{Q:Int->Option Tk}{F:Int->Option Int}{t:Tk}{X:Int}(h:∀s y,F s=some y->∃x t,dC x/\Q x=some t/\kj t/\t.ai=s)(hQ:Q X=some t)(hX:dC X)(hm:kj t):∀s y,cU F t.ai (some 1) s=some y->∃x t,dC x/\Q x=some t/\kj t/\t.ai=s:=by
 intro s y hy;unfold cU at hy;split at hy
 .rename_i e;exact⟨X,t,hX,hQ,hm,e.symm⟩
 .exact h s y hy
def oq(c:Ch)(ws:List Nat)(Q:Int->Option Tk):Prop:=ws.getD (4*c.C+5) 0=0/\∀x t,dC x->Q x=some t->¬kj t
section
variable{w w':World}{b mb g tm:Nat}{c:Ch}{ws:List Nat}{n:Nat}{Q:Int->Option Tk}{q:Nat}
def EB(w:World)(c:Ch)(ws:List Nat)(Q:Int->Option Tk)(e:Ending)(w':World):Prop:=
 Below w w w'/\((∃s:Nat,s<32/\e=.returned (.tuple #[nV s,.bool true]))\/e=.returned (.tuple #[I 0,.bool false]))/\(oq c ws Q->e=.returned (.tuple #[nV 0,.bool true]))
theorem rF{B:Nat}{a:World}{row:Option Nat}(h:Below B a w)(hg:w.grownBy w' row)(hB:B<=w.heap.size)(hr:∀r,row=some r->B<=r):Below B a w':=
 h.trans ⟨hg.os,hg.tape,hg.output,hg.size,λk hk=>hg.block k qd (λe=>qjs)⟩
theorem BY(w:World)(h:aP w b mb g tm c ws n Q q)(hq:q<=1000000):Z 149 #[(b,0)] w (EB w c ws Q):=by
 obtain⟨l1,l2,l3,l4⟩:=h.bj;have c7:w.cell? (b,7)=some (.map (some tm)):=h.blk.cell 7;have hmm:= @XCb prog;have HC:=XAA h;clear h;go_enter func149,ntmps149;go_wp2_with (first|(go_at_call 145;refine Xr (vn HC.out) ?_)|(at_range;refine aao R _ _ R gX oe R (HC.out.alloc _).mp ?_;intro w2 cnt hr2 hg2 hz2));clear hmm;obtain⟨rb,hrb⟩:=Xq ((w.alloc (.map #[] 0)).heap.size);rw [hrb] at hr2 hz2 ⊢;have ua:w.heap.size+1=rb:=by rw [<-hrb];simp
 clear hrb;have hM2:bR (Value.int .i64) prog 3 w2 w.heap.size 0 (λ_=>none):=(bR.new w).heap (hg2.block _ ql (by intro e;cases e));have hb2:Below w w w2:=rF ((XAC _ w).alloc (XAB _) _) hg2 ql (λr hr=>by cases hr)
 go_frame
 go_loopw [6,7] (λ_ _ wr=>∃(left:Int->Bool)(cnt m:Nat)(F:Int->Option Int),eh aH prog 3 wr tm rb q Q left cnt/\bR (Value.int .i64) prog 3 wr w.heap.size m F/\m+cnt<=q/\(∀s y,F s=some y->∃x t,dC x/\Q x=some t/\kj t/\t.ai=s)/\Below w w wr) (λ_ _ wr=>wr.rangeLeft tm rb)
 case atStart=>exact⟨_,cnt,0,_,hr2,hM2,by have:=hr2.cnt_le;omega,(λs y hy=>by cases hy),hb2⟩
 case round=>
  clear hr2 hg2 hz2 hM2 hb2;obtain⟨left,cnt2,m,F,hrg,hM,hmq,hF,hb⟩:=hrel;have HF:=XAA hF;clear hF;go_wp2_with (at_next;refine aar R _ R gX R hrg ?_ ?_)
  .intro hl _;clear hl;obtain⟨m0,hm0⟩:=Xq c.words;have hwl:=HC.out.mw.c.Mb;have hlen:=HC.out.mw.len;have hc8:=HC.out.mw.c.c8;have adH:=HC.out.mw.c.o16;have ho1:=HC.out.mw.c.o1;have Jc:4*c.C+4+128+32*c.O=m0:=by rw [<-hm0];rfl
   rw [hm0] at hlen hwl;have HLEN:=XAA hlen;have AE:=XAA (HC.out.below hb);have d6:wr.cell? (b,6)=some (.pointer (mb,0)):=AE.out.blk.cell 6;have Ny:=XAA hM;have MT:=XAA hb;have Nt:=XAA Jc;clear hm0 Jc hlen hb hM hrg;go_wp2_with (go_at_call 197;refine(Y8 _ mb g ws n m0 AE.out.mw.mem HLEN hwl.2).mono ?_;rintro e w4 ⟨v,rfl,ho,hb4⟩;obtain⟨vg,vc,rfl,hvc,hvb,C3⟩:=aG.gj ho (by have:=HLEN.out;simpa using this) qd;have ln:=XAA (AE.out.below hb4);have d1:w4.cell? (b,1)=I 32:=ln.out.blk.cell 1;have AJ:=XAA (Ny.out.below hb4);have HB4:=XAA (bB MT.out hb4);have HV:=XAA C3;have hvl:=C3.lt;clear ho hb4 C3 d6);clear d1;go_loopw [9,59] (λ_ z wr=>∃s:Nat,s<=32/\z=I s/\Below w4 w4 wr/\(1<=s->¬oq c ws Q)) (λ_ z _=>32-(intOf z).toNat)
   case atStart=>exact⟨0,XAJ _,R,XAC _ _,λh=>qd⟩
   case round=>
    obtain⟨s,hs,rfl,hb5,pd⟩:=hrel;have me:=XAA pd;have bV:=XAA hb5;have gy:=XAA (ln.out.below hb5);have AK:=XAA (AJ.out.below hb5);by_cases hlt:s<32
    .have t1:(s:Int)<32:=by omega
     obtain⟨e0,e1,e2,e3,e4,e5⟩:=gy.out.nq;obtain⟨j,hj⟩:=Xq (4*c.C+4+4*s);have hjm:j+1<m0:=by have:=Nt.out;omega
     have hfs:bE c (s:Int)=(j:Int):=by unfold bE;rw [XAE qd];omega
     have hcf:=fX gy.out.mw.c (s:Int) wr;rw [hfs] at hcf;obtain⟨x,hx⟩:=Xq (ws.getD (j+1) 0);have hwx:wr.cell? (vg,j+1)=J x:=(HV.out.below hb5).cell (j+1) (J x) (by
      have:=HLEN.out
      rw [XAa,XAO qd,<-hx,XBA,XAO qd]
      rfl)
     have bI:=hb5.size;have C2:vg<wr.heap.size:=qd
     have HX:=XAA hx;have HJ:=XAA hj;have iG:=XAA hcf;have AU:=XAA hwx;clear hx hj hfs hb5 pd hcf hwx;by_cases hx0:x=0
     .obtain⟨y,hy⟩:=Xq ((F (s:Int)).getD 0);have hlk:=λW he=>AK.out.look1 gX sf WR (gY (x:=(s:Int)) qd qd) W he;rw [hy] at hlk;have rk:=XAA hlk;have HY:=XAA hy;clear hlk hy;subst hx0;by_cases hy0:y=0
      .subst hy0;go_wp2_with (go_at_call 198;refine iG.out.mono ?_;rintro e w6 ⟨rfl,hb6⟩;have hwy:w6.cell? (vg,j+1)=J 0:=(hb6.cell (p:=⟨vg,j+1,none⟩) C2).trans AU.out;have hlk:=rk.out w6 (hb6.block _ AK.out.lt);have dw:=XAA hb6;clear hb6)
       go_ret2
       refine⟨bB (bB HB4.out bV.out) dw.out,.inl ⟨s,hlt,R⟩,λh=>?_⟩;by_cases hs0:s=0
       .subst hs0;rfl
       .exact absurd h (me.out qd)
      .have hy1:(y==0)=false:=by simpa using hy0
       go_wp2_with (go_at_call 198;refine iG.out.mono ?_;rintro e w6 ⟨rfl,hb6⟩;have hwy:w6.cell? (vg,j+1)=J 0:=(hb6.cell (p:=⟨vg,j+1,none⟩) C2).trans AU.out;have hlk:=rk.out w6 (hb6.block _ AK.out.lt);have dw:=XAA hb6;clear hb6);go_roundw
       case rel=>
        refine⟨s+1,hlt,qbf,bB bV.out dw.out,λ_ h=>?_⟩;by_cases hs0:s=0
        .subst hs0;have lJ:=HY.out;cases rV:F ((0:Nat):Int) with
         |none=>rw [rV] at lJ;exact hy0 lJ.symm
         |some z=>
          obtain⟨X,t,hX,hQ,hm,-⟩:=HF.out _ z rV;exact h.2 X t hX hQ hm
        .exact me.out qd h
       case measure=>simp [intOf];omega
     .have hx1:((x:Int)==0)=false:=by simp;omega
      go_wp2_with (go_at_call 198;refine iG.out.mono ?_;rintro e w6 ⟨rfl,hb6⟩;have hwy:w6.cell? (vg,j+1)=J x:=(hb6.cell (p:=⟨vg,j+1,none⟩) C2).trans AU.out;have dw:=XAA hb6;clear hb6);go_roundw
      case rel=>
       refine⟨s+1,hlt,qbf,bB bV.out dw.out,λ_ h=>?_⟩;by_cases hs0:s=0
       .subst hs0;have h1:=h.1;have h2:=HX.out;rw [show j+1=4*c.C+5 by have:=HJ.out;omega,h1] at h2;exact hx0 h2.symm
       .exact me.out qd h
      case measure=>simp [intOf];omega
    .obtain rfl:s=32:=by omega
     go_wp2
     go_ret2
     exact⟨bB HB4.out bV.out,.inr R,λh=>absurd h (me.out qd)⟩
  .intro X t w1 cnt1 hX hQ hl hrg1 hlt hg1 hs1 hen;have hb1:=rF hb hg1 hb.size (λr hr=>by cases hr;omega);have hM1:bR (Value.int .i64) prog 3 w1 w.heap.size m F:=hM.heap (hg1.block _ hM.lt (by intro e;have:=XAl e;omega));have HQ:=XAA hQ;have rp:=XAA ((HC.out.tk X t hX hQ).1);have oD:=XAA hM1;have HR1:=XAA hrg1;have HB1:=XAA hb1;have hlw:w.heap.size+1<w1.heap.size:=by have:=hrg1.lt;omega
   clear hQ hl hg1 hM1 hrg1 hb1 hb hM hs1;have hcase:t.pc=43\/t.pc=44\/t.pc=77\/t.pc=78\/(t.pc≠43/\t.pc≠44/\t.pc≠77/\t.pc≠78):=qd
   have HR:=XAA hrg;clear hrg;have o_:(Instr.entry (.pointer (rb,0))).run prog w1=.ok (.tuple #[I X,.agg (bD t)]) w1:=hen;clear hen;have hwc:t.aB=0\/(t.aB==0)=false:=by rcases rp.out.aB with h|h|h<;>simp [h]
   rcases hwc with hw|hw
   .rcases hcase with hp|hp|hp|hp|⟨q1,q2,q3,q4⟩
    .have hmk:kj t:=(.inl ⟨hw,.inl hp⟩);have hsl:=uh rp.out hmk;have vU:m<1000000:=by omega
     have HW:=XAA hw;have HP:=XAA hp;clear hw hp;go_wp2_with (first|(refine bn R _ _ R R t R (ak.new w1 210 aQ) R ?_;intro w3 ho3 aT;have kw:w3.cell? (w1.heap.size,4)=I 0:=qea;have kp:w3.cell? (w1.heap.size,2)=I 43:=qdd;have ks:w3.cell? (w1.heap.size,5)=I t.ai:=aT.cell 5;have hb3:=XAA (aI ((XAC _ w1).alloc (XAB _) _) ho3 (XAB _));clear ho3 o_)|(at_mapUpdate;refine ju R 90 _ _ _ R gX sf R (oD.out.below hb3.out) qw t.ai 1 R R (gY qd qd) ?_;intro w5 eD dH));have bI:=hU dH;go_roundw
     case rel=>exact⟨_,_,_,_,_,_,_,_,_,_,_,_,_,_,_,_,_,_,_,_,_,_,_,_,_,_,_,_,_,_,_,_,_,⟨_,cnt1,m+1,_,(HR1.out.below_ hb3.out).kS bI qd qd,eD,qd,tP HF.out HQ.out hX hmk,aI (bB HB1.out hb3.out) bI qd⟩,R⟩
     case measure=>rw [((HR1.out.below_ hb3.out).kS bI qd qd).left_eq,HR.out.left_eq];exact hlt
    .have hmk:kj t:=(.inl ⟨hw,.inr hp⟩);have hsl:=uh rp.out hmk;have vU:m<1000000:=by omega
     have HW:=XAA hw;have HP:=XAA hp;clear hw hp;go_wp2_with (first|(refine bn R _ _ R R t R (ak.new w1 210 aQ) R ?_;intro w3 ho3 aT;have kw:w3.cell? (w1.heap.size,4)=I 0:=qea;have kp:w3.cell? (w1.heap.size,2)=I 44:=qdd;have ks:w3.cell? (w1.heap.size,5)=I t.ai:=aT.cell 5;have hb3:=XAA (aI ((XAC _ w1).alloc (XAB _) _) ho3 (XAB _));clear ho3 o_)|(at_mapUpdate;refine ju R 90 _ _ _ R gX sf R (oD.out.below hb3.out) qw t.ai 1 R R (gY qd qd) ?_;intro w5 eD dH));have bI:=hU dH;go_roundw
     case rel=>exact⟨_,_,_,_,_,_,_,_,_,_,_,_,_,_,_,_,_,_,_,_,_,_,_,_,_,_,_,_,_,_,_,_,_,⟨_,cnt1,m+1,_,(HR1.out.below_ hb3.out).kS bI qd qd,eD,qd,tP HF.out HQ.out hX hmk,aI (bB HB1.out hb3.out) bI qd⟩,R⟩
     case measure=>rw [((HR1.out.below_ hb3.out).kS bI qd qd).left_eq,HR.out.left_eq];exact hlt
    .have hmk:kj t:=(.inr (.inl hp));have hsl:=uh rp.out hmk;have vU:m<1000000:=by omega
     have HW:=XAA hw;have HP:=XAA hp;clear hw hp;go_wp2_with (first|(refine bn R _ _ R R t R (ak.new w1 210 aQ) R ?_;intro w3 ho3 aT;have kw:w3.cell? (w1.heap.size,4)=I 0:=qea;have kp:w3.cell? (w1.heap.size,2)=I 77:=qdd;have ks:w3.cell? (w1.heap.size,5)=I t.ai:=aT.cell 5;have hb3:=XAA (aI ((XAC _ w1).alloc (XAB _) _) ho3 (XAB _));clear ho3 o_)|(at_mapUpdate;refine ju R 90 _ _ _ R gX sf R (oD.out.below hb3.out) qw t.ai 1 R R (gY qd qd) ?_;intro w5 eD dH));have bI:=hU dH;go_roundw
     case rel=>exact⟨_,_,_,_,_,_,_,_,_,_,_,_,_,_,_,_,_,_,_,_,_,_,_,_,_,_,_,_,_,_,_,_,_,⟨_,cnt1,m+1,_,(HR1.out.below_ hb3.out).kS bI qd qd,eD,qd,tP HF.out HQ.out hX hmk,aI (bB HB1.out hb3.out) bI qd⟩,R⟩
     case measure=>rw [((HR1.out.below_ hb3.out).kS bI qd qd).left_eq,HR.out.left_eq];exact hlt
    .have hmk:kj t:=(.inr (.inr hp));have hsl:=uh rp.out hmk;have vU:m<1000000:=by omega
     have HW:=XAA hw;have HP:=XAA hp;clear hw hp;go_wp2_with (first|(refine bn R _ _ R R t R (ak.new w1 210 aQ) R ?_;intro w3 ho3 aT;have kw:w3.cell? (w1.heap.size,4)=I 0:=qea;have kp:w3.cell? (w1.heap.size,2)=I 78:=qdd;have ks:w3.cell? (w1.heap.size,5)=I t.ai:=aT.cell 5;have hb3:=XAA (aI ((XAC _ w1).alloc (XAB _) _) ho3 (XAB _));clear ho3 o_)|(at_mapUpdate;refine ju R 90 _ _ _ R gX sf R (oD.out.below hb3.out) qw t.ai 1 R R (gY qd qd) ?_;intro w5 eD dH));have bI:=hU dH;go_roundw
     case rel=>exact⟨_,_,_,_,_,_,_,_,_,_,_,_,_,_,_,_,_,_,_,_,_,_,_,_,_,_,_,_,_,_,_,_,_,⟨_,cnt1,m+1,_,(HR1.out.below_ hb3.out).kS bI qd qd,eD,qd,tP HF.out HQ.out hX hmk,aI (bB HB1.out hb3.out) bI qd⟩,R⟩
     case measure=>rw [((HR1.out.below_ hb3.out).kS bI qd qd).left_eq,HR.out.left_eq];exact hlt
    .have b0:(t.pc==43)=false:=by simpa using q1
     have b1:(t.pc==44)=false:=qcu;have b2:(t.pc==77)=false:=by simpa using q3
     have b3:(t.pc==78)=false:=by simpa using q4
     clear q1 q2 q3 q4;have HW:=XAA hw;clear hw;go_wp2_with (refine bn R _ _ R R t R (ak.new w1 210 aQ) R ?_;intro w3 ho3 aT;have kw:w3.cell? (w1.heap.size,4)=I 0:=qea;have kp:w3.cell? (w1.heap.size,2)=I t.pc:=(by exact aT.cell 2);have ks:w3.cell? (w1.heap.size,5)=I t.ai:=aT.cell 5;have hb3:=XAA (aI ((XAC _ w1).alloc (XAB _) _) ho3 (XAB _));clear ho3 o_);go_roundw
     case rel=>exact⟨_,cnt1,m,F,HR1.out.below_ hb3.out,oD.out.below hb3.out,qd,HF.out,bB HB1.out hb3.out⟩
     case measure=>rw [(HR1.out.below_ hb3.out).left_eq,HR.out.left_eq];exact hlt
   .have hcase2:t.pc=77\/t.pc=78\/((t.pc==77)=false/\(t.pc==78)=false):=by rcases hcase with h|h|h|h|h<;>simp [h]
    clear hcase;rcases hcase2 with hp|hp|⟨b2,b3⟩
    .have hmk:kj t:=(.inr (.inl hp));have hsl:=uh rp.out hmk;have vU:m<1000000:=by omega
     have HP:=XAA hp;clear hp;go_upto_region 7 with(refine bn R _ _ R R t R (ak.new w1 210 aQ) R ?_;intro w3 ho3 aT;have kw:w3.cell? (w1.heap.size,4)=I t.aB:=(by exact aT.cell 4);have kp:w3.cell? (w1.heap.size,2)=I 77:=qdd;have ks:w3.cell? (w1.heap.size,5)=I t.ai:=aT.cell 5;have hb3:=XAA (aI ((XAC _ w1).alloc (XAB _) _) ho3 (XAB _));clear ho3 o_)
     iterate 40 (first|(with_reducible refine wpList_skip (o:=Oper.mk _ _ _ _ _ (some _)) qu ?_;go_frame)|go_values|go_guarded|go_step|go_upon|go_back)
     go_wp2_with (at_mapUpdate;refine ju R 90 _ _ _ R gX sf R (oD.out.below hb3.out) qw t.ai 1 R R (gY qd qd) ?_;intro w5 eD dH);have bI:=hU dH;go_roundw
     case rel=>exact⟨_,_,_,_,_,_,_,_,_,_,_,_,_,_,_,_,_,_,_,_,_,_,_,_,_,_,_,_,_,_,_,_,_,⟨_,cnt1,m+1,_,(HR1.out.below_ hb3.out).kS bI qd qd,eD,qd,tP HF.out HQ.out hX hmk,aI (bB HB1.out hb3.out) bI qd⟩,R⟩
     case measure=>rw [((HR1.out.below_ hb3.out).kS bI qd qd).left_eq,HR.out.left_eq];exact hlt
    .have hmk:kj t:=(.inr (.inr hp));have hsl:=uh rp.out hmk;have vU:m<1000000:=by omega
     have HP:=XAA hp;clear hp;go_upto_region 7 with(refine bn R _ _ R R t R (ak.new w1 210 aQ) R ?_;intro w3 ho3 aT;have kw:w3.cell? (w1.heap.size,4)=I t.aB:=(by exact aT.cell 4);have kp:w3.cell? (w1.heap.size,2)=I 78:=qdd;have ks:w3.cell? (w1.heap.size,5)=I t.ai:=aT.cell 5;have hb3:=XAA (aI ((XAC _ w1).alloc (XAB _) _) ho3 (XAB _));clear ho3 o_)
     iterate 40 (first|(with_reducible refine wpList_skip (o:=Oper.mk _ _ _ _ _ (some _)) qu ?_;go_frame)|go_values|go_guarded|go_step|go_upon|go_back)
     go_wp2_with (at_mapUpdate;refine ju R 90 _ _ _ R gX sf R (oD.out.below hb3.out) qw t.ai 1 R R (gY qd qd) ?_;intro w5 eD dH);have bI:=hU dH;go_roundw
     case rel=>exact⟨_,_,_,_,_,_,_,_,_,_,_,_,_,_,_,_,_,_,_,_,_,_,_,_,_,_,_,_,_,_,_,_,_,⟨_,cnt1,m+1,_,(HR1.out.below_ hb3.out).kS bI qd qd,eD,qd,tP HF.out HQ.out hX hmk,aI (bB HB1.out hb3.out) bI qd⟩,R⟩
     case measure=>rw [((HR1.out.below_ hb3.out).kS bI qd qd).left_eq,HR.out.left_eq];exact hlt
    .go_upto_region 7 with(refine bn R _ _ R R t R (ak.new w1 210 aQ) R ?_;intro w3 ho3 aT;have kw:w3.cell? (w1.heap.size,4)=I t.aB:=(by exact aT.cell 4);have kp:w3.cell? (w1.heap.size,2)=I t.pc:=(by exact aT.cell 2);have ks:w3.cell? (w1.heap.size,5)=I t.ai:=aT.cell 5;have hb3:=XAA (aI ((XAC _ w1).alloc (XAB _) _) ho3 (XAB _));clear ho3 o_)
     iterate 40 (first|(with_reducible refine wpList_skip (o:=Oper.mk _ _ _ _ _ (some _)) qu ?_;go_frame)|go_values|go_guarded|go_step|go_upon|go_back)
     go_wp2;go_roundw
     case rel=>exact⟨_,cnt1,m,F,HR1.out.below_ hb3.out,oD.out.below hb3.out,qd,HF.out,bB HB1.out hb3.out⟩
     case measure=>rw [(HR1.out.below_ hb3.out).left_eq,HR.out.left_eq];exact hlt
end
section
variable{w w':World}{b mb g tm:Nat}{c:Ch}{ws:List Nat}{n:Nat}{Q:Int->Option Tk}{q:Nat}
theorem Hp(t:Tk)(h0:t.az=0)(h1:t.aB=1)(yes:Bool)(sl:Int)(hs:yes=true->0<=sl/\sl<32)(w:World):Z 199 #[aH t,.bool yes,I sl] w λe w'=>e=.returned (.tuple #[aH (eA t yes sl),I 0])/\Below w w w':=by
 obtain⟨ar,aj,pc,az,aB,ai,aq,H,T,F,K,N,au,ay,too,aw,fr⟩:=t;dsimp only at h0 h1;subst h0 h1;cases yes
 .exact TD sl
 .exact TE sl (hs R).1 (hs R).2
theorem Gb{t:Tk}(ht:cR t)(yes:Bool)(sl:Int)(hs:yes=true->0<=sl/\sl<32):(eA t yes sl).az=0->cR (eA t yes sl):=by
 cases yes
 .intro h;cases h
 .exact λ_=>⟨⟨ht.ok.H,ht.ok.T,ht.ok.F,ht.ok.K,ht.ok.N⟩,.inl R,λ_=>hs R,λh=>qck⟩
theorem Ga(t:Tk)(yes:Bool)(sl:Int):(eA t yes sl).aj=t.aj:=by cases yes<;>rfl
theorem Cm{e:Ending}(h:(∃s:Nat,s<32/\e=.returned (.tuple #[nV s,.bool true]))\/e=.returned (.tuple #[I 0,.bool false])):∃(s:Nat)(is:Bool),e=.returned (.tuple #[I s,.bool is])/\s<32/\(is=false->s=0):=by
 rcases h with⟨s,h1,rfl⟩|rfl
 .exact⟨s,true,R,h1,λh=>qck⟩
 .exact⟨0,false,R,qf,λ_=>rfl⟩
def As(w:World)(b mb g tm:Nat)(c:Ch)(ws:List Nat)(n:Nat)(Q:Int->Option Tk)(q:Nat)(t:Tk)(yes:Bool)(e:Ending)(w':World):Prop:=
 Rws [tm] w w'/\((∃s:Nat,s<32/\e=.returned (.tuple #[aH (eA t yes s),I 0])/\aP w' b mb g tm c ws n (fW Q (eA t yes s)) (q+1)/\(oq c ws Q->s=0))\/
  (e=.returned (.tuple #[aH aO,I 7])/\aP w' b mb g tm c ws n Q q/\¬oq c ws Q))
theorem Sl(w:World)(h:aP w b mb g tm c ws n Q q)(hq:q<=1000000)(x:Int)(hx:0<=x/\x<c.C)(t:Tk)(hQ:Q x=some t)(hw:t.aB=1):Z 150 #[(b,0),I x,.bool true] w (As w b mb g tm c ws n Q q t true):=by
 obtain⟨l1,l2,l3,l4⟩:=h.bj;have⟨ht,h0,gQ⟩:=h.has hx hQ;have HC:=XAA h;have BR:=ak.new w 210 aQ;dsimp only [aQ] at BR;have hxc:0<=t.aj/\t.aj<c.C:=qjn
 have oI:=XAA hxc;have ki:=XAA (yt (w.alloc (.cells aQ 210)) (h.alloc _) x hx t 1 hQ hw);dsimp only [aQ] at ki;have HT:=XAA ht;have H0:=XAA h0;have H1:=XAA hw;clear h gQ hQ hw hxc ht h0;go_enter func150,ntmps150;go_wp2_with (first|(go_at_call 153;refine ki.out.mono ?_;rintro e w1 ⟨rfl,hb1⟩;have mM:=BR.below hb1;have HB1:=XAA hb1;clear hb1)|(refine bn R _ _ R R t R (ak.new w1 210 aQ) R ?_;intro w2 ho2 bt;have hz2:w.heap.size+1<=w1.heap.size:=qgf;have hb2:Below w w w2:=(((XAC _ w).alloc (XAB _) _).trans (HB1.out.mono ql)).trans (aI ((XAC w.heap.size w1).alloc qd _) ho2 qd);have HC2:=XAA (HC.out.below hb2);have mN:=(mM.alloc _).only ho2 qd;have HB2:=XAA hb2;clear ho2 hb2)|(go_at_call 149;refine(BY _ HC2.out hq).mono ?_;rintro e w3 ⟨hb3,hcase,hfr⟩;have HB3:=XAA hb3;have bL:=XAA (HC2.out.below hb3);have aT:=bt.below hb3;have pE:=mN.below hb3;have ri:=XAA hfr;clear hb3 hfr;obtain⟨s,is,rfl,nN,hfs⟩:=Cm hcase;have ET:=XAA hfs;clear hcase hfs;cases is)|(go_at_call 199;refine(Hp t H0.out H1.out true (s:Int) (λ_=>qd) _).mono ?_;rintro e w4 ⟨rfl,hb4⟩;have ln:=XAA (bL.out.below hb4);have ud:=pE.below hb4;have HB4:=XAA hb4;clear hb4)|(go_at_call 158;refine(vm _ ln.out hq (eA t true s) (by rw [Ga];exact oI.out) (Gb HT.out true s (λ_=>qd))).mono ?_;rintro e w5 ⟨rfl,jd,dX⟩;have z5:=dX.size;have gZ:=ud.rws dX qj;have gy:=XAA jd;have fk:=XAA dX;clear jd dX)|(refine iC R _ R R t aT ?_)|(refine bn R _ _ R R (eA t true s) R gZ R ?_;intro w6 cD dZ)|(refine bn R _ _ R R aO R pE R ?_;intro w6 cD dZ))
 .refine XAI (v:=.tuple #[aH aO,I 7]) (dc R _ _ qu qu (cn 210 dZ XAQ R (fC.trans R))) R ?_;exact⟨(Rws.of_below [tm] (HB2.out.trans (HB3.out.mono HB2.out.size))).only cD (XAB _),.inr ⟨R,bL.out.only cD qd,λh=>by have:=ri.out h;simp at this⟩⟩
 .refine XAI (v:=.tuple #[aH (eA t true s),I 0]) (dc R _ _ qu qu (cn 210 dZ XAQ R (fC.trans R))) R ?_;exact⟨(((Rws.of_below [tm] ((HB2.out.trans (HB3.out.mono HB2.out.size)).trans (HB4.out.mono qhy))).trans fk.out).only cD (XAB _)),.inl ⟨s,nN,R,gy.out.only cD qd,λh=>by have:=ri.out h;simpa using this⟩⟩
theorem Sk(w:World)(h:aP w b mb g tm c ws n Q q)(hq:q<=1000000)(x:Int)(hx:0<=x/\x<c.C)(t:Tk)(hQ:Q x=some t)(hw:t.aB=1):Z 150 #[(b,0),I x,.bool false] w (As w b mb g tm c ws n Q q t false):=by
 obtain⟨l1,l2,l3,l4⟩:=h.bj;have⟨ht,h0,gQ⟩:=h.has hx hQ;have HC:=XAA h;have BR:=ak.new w 210 aQ;dsimp only [aQ] at BR;have hxc:0<=t.aj/\t.aj<c.C:=qjn
 have oI:=XAA hxc;have ki:=XAA (yt (w.alloc (.cells aQ 210)) (h.alloc _) x hx t 1 hQ hw);dsimp only [aQ] at ki;have HT:=XAA ht;have H0:=XAA h0;have H1:=XAA hw;clear h gQ hQ hw hxc ht h0;go_enter func150,ntmps150;go_wp2_with (first|(go_at_call 153;refine ki.out.mono ?_;rintro e w1 ⟨rfl,hb1⟩;have mM:=BR.below hb1;have HB1:=XAA hb1;clear hb1)|(refine bn R _ _ R R t R (ak.new w1 210 aQ) R ?_;intro w2 ho2 bt;have hz2:w.heap.size+1<=w1.heap.size:=qgf;have hb2:Below w w w2:=(((XAC _ w).alloc (XAB _) _).trans (HB1.out.mono ql)).trans (aI ((XAC w.heap.size w1).alloc qd _) ho2 qd);have HC2:=XAA (HC.out.below hb2);have mN:=(mM.alloc _).only ho2 qd;have HB2:=XAA hb2;clear ho2 hb2)|(go_at_call 149;refine(BY _ HC2.out hq).mono ?_;rintro e w3 ⟨hb3,hcase,hfr⟩;have HB3:=XAA hb3;have bL:=XAA (HC2.out.below hb3);have aT:=bt.below hb3;have pE:=mN.below hb3;have ri:=XAA hfr;clear hb3 hfr;obtain⟨s,is,rfl,nN,hfs⟩:=Cm hcase;have ET:=XAA hfs;clear hcase hfs)|(go_at_call 199;refine(Hp t H0.out H1.out false (s:Int) (λ_=>qd) _).mono ?_;rintro e w4 ⟨rfl,hb4⟩;have ln:=XAA (bL.out.below hb4);have ud:=pE.below hb4;have HB4:=XAA hb4;clear hb4)|(go_at_call 158;refine(vm _ ln.out hq (eA t false s) (by rw [Ga];exact oI.out) (Gb HT.out false s (λ_=>qd))).mono ?_;rintro e w5 ⟨rfl,jd,dX⟩;have z5:=dX.size;have gZ:=ud.rws dX qj;have gy:=XAA jd;have fk:=XAA dX;clear jd dX)|(refine iC R _ R R t aT ?_)|(refine bn rfl _ _ rfl rfl (eA t false s) rfl gZ rfl ?_;intro w6 cD dZ));refine XAI (v:=.tuple #[aH (eA t false s),I 0]) (dc rfl _ _ qu qu (cn 210 dZ XAQ rfl (fC.trans rfl))) rfl ?_;exact⟨(((Rws.of_below [tm] ((HB2.out.trans (HB3.out.mono HB2.out.size)).trans (HB4.out.mono qhy))).trans fk.out).only cD (XAB _)),.inl ⟨s,nN,rfl,gy.out.only cD qd,λh=>by have:=ri.out h;simp at this;exact this.1⟩⟩
end
section
variable{w w':World}{b mb g tm:Nat}{c:Ch}{ws:List Nat}{n:Nat}{Q:Int->Option Tk}{q:Nat}
theorem Sx(w:World)(t:Tk)(er:Int)(he:er≠0):Z 158 #[(b,0),aH t,I er] w λe w'=>e=.returned (.tuple #[aH aO,I er])/\Below w w w':=by
 have h1:(er==0)=false:=by simpa using he
 have BR:ak _ (w.heap.size+1) 210 aQ:=ak.new2 w (.cells (bD t) 210) 210 aQ;dsimp only [bD,aQ] at BR;clear he;go_enter func158,ntmps158;go_wp2_with (refine bn R _ _ R R aO R BR R ?_;intro w6 cD dZ);refine XAI (v:=.tuple #[aH aO,I er]) (dc R _ _ qu qu (cn 210 dZ XAQ R (fC.trans R))) R ⟨R,aI (((XAC _ w).alloc (XAB _) _).alloc ql _) cD (XAU _)⟩
theorem Uz(t:Tk)(h0:t.az=0)(h1:t.aB=2)(ht:t.Ok)(w:World):Z 201 #[aH t] w λe w'=>∃(t':Tk)(er:Int),e=.returned (.tuple #[aH t',I er])/\Below w w w'/\(er=0->t'.aB=0/\t'.aj=t.aj/\t'.ai=t.ai/\t'.Ok):=by
 obtain⟨ar,aj,pc,az,aB,ai,aq,H,T,F,K,N,au,ay,tow,aw,fr⟩:=t;dsimp only at h0 h1;subst h0 h1;exact UA ht
def MD(w:World)(b mb g tm:Nat)(c:Ch)(ws:List Nat)(n:Nat)(q:Nat)(e:Ending)(w':World):Prop:=
 ∃(t':Tk)(er:Int)(Q':Int->Option Tk),e=.returned (.tuple #[aH t',I er])/\aP w' b mb g tm c ws n Q' (q+1)/\Rws [tm] w w'
theorem aP.up(h:aP w b mb g tm c ws n Q q):aP w b mb g tm c ws n Q (q+1):=⟨h.blk,h.mw,h.mp.mono (XAU q),h.nb,h.nt,h.tk⟩
theorem Vq{t t':Tk}(ht:cR t)(hw:t.aB=2)(h:t'.aB=0/\t'.aj=t.aj/\t'.ai=t.ai/\t'.Ok):t'.az=0->cR t':=
 λ_=>⟨h.2.2.2,.inl h.1,λ_=>by rw [h.2.2.1];exact ht.at_ (.inl hw),λh1=>by rw [h.1] at h1;cases h1⟩
theorem Sy(w:World)(h:aP w b mb g tm c ws n Q q)(hq:q<=1000000)(x:Int)(hx:0<=x/\x<c.C)(t:Tk)(hQ:Q x=some t)(hw:t.aB=2):Z 152 #[(b,0),I x] w (MD w b mb g tm c ws n q):=by
 obtain⟨l1,l2,l3,l4⟩:=h.bj;have⟨ht,h0,gQ⟩:=h.has hx hQ;have HC:=XAA h;have BR:=ak.new w 210 aQ;dsimp only [aQ] at BR;have hxc:0<=t.aj/\t.aj<c.C:=qjn
 have oI:=XAA hxc;have ki:=XAA (yt (w.alloc (.cells aQ 210)) (h.alloc _) x hx t 2 hQ hw);dsimp only [aQ] at ki;have HT:=XAA ht;have H0:=XAA h0;have H1:=XAA hw;clear h gQ hQ hw hxc ht h0;go_enter func152,ntmps152;go_wp2_with (first|(go_at_call 153;refine ki.out.mono ?_;rintro e w1 ⟨rfl,hb1⟩;have mM:=BR.below hb1;have HB1:=XAA hb1;clear hb1)|(refine bn R _ _ R R t R (ak.new w1 210 aQ) R ?_;intro w2 ho2 bt;have hz2:w.heap.size+1<=w1.heap.size:=qgf;have hb2:Below w w w2:=(((XAC _ w).alloc (XAB _) _).trans (HB1.out.mono ql)).trans (aI ((XAC w.heap.size w1).alloc qd _) ho2 qd);have HC2:=XAA (HC.out.below hb2);have mN:=(mM.alloc _).only ho2 qd;have HB2:=XAA hb2;clear ho2 hb2)|(go_at_call 201;refine(Uz t H0.out H1.out HT.out.ok _).mono ?_;rintro e w4 ⟨t',er,rfl,hb4,hg4⟩;have ln:=XAA (HC2.out.below hb4);have ud:=mN.below hb4;have HB4:=XAA hb4;have s_:=XAA hg4;clear hb4 hg4;by_cases her:er=0)|(go_at_call 158;subst her;(with_reducible refine(vm _ ln.out hq t' (by rw [(s_.out R).2.1];exact oI.out) (Vq HT.out H1.out (s_.out R))).mono ?_);rintro e w5 ⟨rfl,jd,dX⟩;have z5:=dX.size;have gZ:=ud.rws dX qj;have gy:=XAA jd;have fk:=XAA dX;clear jd dX)|(go_at_call 158;(with_reducible refine(Sx _ t' er her).mono ?_);rintro e w5 ⟨rfl,hb5⟩;have z5:=hb5.size;have gZ:=ud.below hb5;have gy:=XAA ((ln.out.below hb5).up);have fk:=XAA (Rws.of_below [tm] hb5);clear hb5)|(refine iC R _ R R t bt ?_)|(refine bn R _ _ R R t' R gZ R ?_;intro w6 cD dZ)|(refine bn R _ _ R R aO R gZ R ?_;intro w6 cD dZ))
 .refine XAI (v:=.tuple #[aH t',I 0]) (dc R _ _ qu qu (cn 210 dZ XAQ R (fC.trans R))) R ?_;exact⟨t',0,_,R,gy.out.only cD qd,(Rws.trans (Rws.trans (Rws.of_below [tm] HB2.out) (Rws.of_below [tm] HB4.out)) fk.out).only cD (XAB _)⟩
 .refine XAI (v:=.tuple #[aH aO,I er]) (dc R _ _ qu qu (cn 210 dZ XAQ R (fC.trans R))) R ?_;exact⟨aO,er,_,R,gy.out.only cD qd,(Rws.trans (Rws.trans (Rws.of_below [tm] HB2.out) (Rws.of_below [tm] HB4.out)) fk.out).only cD (XAB _)⟩
end
end Go.Proofs.YtedefgjfgdcfdaaGreatDoor
