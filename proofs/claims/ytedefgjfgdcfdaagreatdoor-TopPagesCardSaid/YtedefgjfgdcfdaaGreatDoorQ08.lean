/- Walks and laws for TopPages. -/
import Derived.Test.YtedefgjfgdcfdaaGreatDoorQ07
namespace Go.Proofs.YtedefgjfgdcfdaaGreatDoor
open Go.RowKit Go.Proofs.Tryz
set_option maxRecDepth 100000
set_option maxHeartbeats 4000000
section
variable{c:Ch}
theorem eH(h:c.Ok)(w:World):Z 203 #[dh c] w λe w'=>e=.returned (I 0)/\Below w w w':=by
 have h1:=h.c1;have h2:=h.c8;have h3:=h.o1;have h4:=h.o16;clear h;unfold dh;go_enter func203,ntmps203;go_wp2;go_ret;exact⟨R,qa⟩
theorem yp(h:c.Ok)(w:World):Z 274 #[dh c] w λe w'=>e=.returned (I (4*c.C))/\Below w w w':=by
 have h2:=h.c8;clear h;have hw:IntKind.i64.wrap (4*(c.C:Int))=4*c.C:=XAM _ qd;unfold dh;go_enter func274,ntmps274;go_wp2;go_ret;exact⟨R,qa⟩
theorem BL(h:c.Ok)(w:World):Z 221 #[dh c] w λe w'=>e=.returned (I (4*c.C+4))/\Below w w w':=by
 have h2:=h.c8;have H:=XAA h;clear h;have hw:IntKind.i64.wrap (4*(c.C:Int)+4)=4*c.C+4:=XAM _ qd;go_enter func221,ntmps221;go_wp2_with (first|(go_at_call 274;refine(yp H.out _).mono ?_;rintro e w1 ⟨rfl,hb1⟩));go_ret;exact⟨R,qa⟩
theorem GJ(h:c.Ok)(w:World):Z 193 #[dh c] w λe w'=>e=.returned (I (4*c.C+4+128))/\Below w w w':=by
 have h2:=h.c8;have H:=XAA h;clear h;have hw:IntKind.i64.wrap (4*(c.C:Int)+4+128)=4*c.C+4+128:=XAM _ qd;go_enter func193,ntmps193;go_wp2;(refine ba (w.heap.size+1) (λhxc aA hxh hxn=>?_);(repeat (go_big_quiet_step ((go_at_call 221;exact dy (BL H.out _)))));refine XAG ?_;clear hxc aA hxh hxn;intro w1 hb1 hz1 hc1 hf1);go_wp2;go_ret;exact⟨R,qa⟩
theorem GK(h:c.Ok)(w:World):Z 213 #[dh c] w λe w'=>e=.returned (I c.words)/\Below w w w':=by
 have h2:=h.c8;have h3:=h.o16;have H:=XAA h;have e:(c.words:Int)=4*c.C+4+128+32*c.O:=by unfold Ch.words;omega
 rw [e];clear h e;have hw:IntKind.i64.wrap (32*(c.O:Int))=32*c.O:=XAM _ qd;have hw2:IntKind.i64.wrap (4*(c.C:Int)+4+128+32*c.O)=4*c.C+4+128+32*c.O:=XAM _ qd;go_enter func213,ntmps213;go_wp2_with (first|(go_at_call 203;refine(eH H.out _).mono ?_;rintro e w1 ⟨rfl,hb1⟩;obtain⟨hz1,hc1,hf1⟩:=bQ hb1 (w.heap.size+1) qbk));have c1:w1.cell? (w.heap.size,1)=I 32:=by rw [hc1 _ _ qd];simp [go_sem]
 (refine ba (w.heap.size+1) (λhxc aA hxh hxn=>?_);(repeat (go_big_quiet_step ((go_at_call 193;exact dy (GJ H.out _)))));refine XAG ?_;clear hxc aA hxh hxn;intro w1 hb1 hz1 hc1 hf1)
 go_wp2;go_ret;exact⟨R,qa⟩
end
section
variable{c:Ch}
theorem nj(h:c.Ok)(aj:Int)(w:World):Z 280 #[dh c,I aj] w λe w'=>e=.returned (I (dm c aj))/\Below w w w':=by
 have h2:=h.c8;have h3:=h.o1;have h4:=h.o16;have H:=XAA h;clear h;by_cases hi:0<=aj/\aj<c.C
 .rw [show dm c aj=4*aj from XAE hi];obtain⟨i0,i1⟩:=hi;have hw:IntKind.i64.wrap (4*aj)=4*aj:=XAM _ qd;go_enter func280,ntmps280;go_wp2_with (first|(go_at_call 203;refine(eH H.out _).mono ?_;rintro e w1 ⟨rfl,hb1⟩;obtain⟨hz1,hc1,hf1⟩:=bQ hb1 (w.heap.size+2) qbk)|go_in);go_ret;exact⟨R,qa⟩
 .rw [show dm c aj= -1 from XAD hi];rcases (by omega:aj<0\/(¬aj<0/\(c.C:Int)<=aj)) with i0|⟨i0,i1⟩
  all_goals
   go_enter func280,ntmps280;go_wp2_with (first|(go_at_call 203;refine(eH H.out _).mono ?_;rintro e w1 ⟨rfl,hb1⟩;obtain⟨hz1,hc1,hf1⟩:=bQ hb1 (w.heap.size+2) qbk)|go_in);go_ret;exact⟨R,qa⟩
theorem mx(h:c.Ok)(aj:Int)(w:World):Z 298 #[dh c,I aj] w λe w'=>e=.returned (I (dO c aj))/\Below w w w':=by
 have h2:=h.c8;have h3:=h.o1;have h4:=h.o16;have H:=XAA h;clear h;by_cases hi:0<=aj/\aj<c.C
 .rw [show dO c aj=4*aj+2 from XAE hi];obtain⟨i0,i1⟩:=hi;have hw:IntKind.i64.wrap (4*aj)=4*aj:=XAM _ qd;have hw2:IntKind.i64.wrap (4*aj+2)=4*aj+2:=XAM _ qd;go_enter func298,ntmps298;go_wp2_with (first|(go_at_call 203;refine(eH H.out _).mono ?_;rintro e w1 ⟨rfl,hb1⟩;obtain⟨hz1,hc1,hf1⟩:=bQ hb1 (w.heap.size+2) qbk)|go_in);go_ret;exact⟨R,qa⟩
 .rw [show dO c aj= -1 from XAD hi];rcases (by omega:aj<0\/(¬aj<0/\(c.C:Int)<=aj)) with i0|⟨i0,i1⟩
  all_goals
   go_enter func298,ntmps298;go_wp2_with (first|(go_at_call 203;refine(eH H.out _).mono ?_;rintro e w1 ⟨rfl,hb1⟩;obtain⟨hz1,hc1,hf1⟩:=bQ hb1 (w.heap.size+2) qbk)|go_in);go_ret;exact⟨R,qa⟩
theorem mr(h:c.Ok)(w:World):Z 302 #[dh c] w λe w'=>e=.returned (I (iu c))/\Below w w w':=by
 have h2:=h.c8;have h3:=h.o1;have h4:=h.o16;have H:=XAA h;clear h;rw [show iu c=4*(c.C:Int) from rfl];go_enter func302,ntmps302;go_wp2_with (first|(go_at_call 203;refine(eH H.out _).mono ?_;rintro e w1 ⟨rfl,hb1⟩;obtain⟨hz1,hc1,hf1⟩:=bQ hb1 (w.heap.size+1) qbk)|(go_at_call 274;refine(yp H.out _).mono ?_;rintro e w2 ⟨rfl,hb2⟩;obtain⟨hz2,hc2,hf2⟩:=bQ hb2 (w.heap.size+1) qbk)|go_in);go_ret;exact⟨R,qa⟩
theorem nm(h:c.Ok)(w:World):Z 303 #[dh c] w λe w'=>e=.returned (I (oc c))/\Below w w w':=by
 have h2:=h.c8;have h3:=h.o1;have h4:=h.o16;have H:=XAA h;clear h;rw [show oc c=4*(c.C:Int)+1 from rfl];have hw:IntKind.i64.wrap (4*(c.C:Int)+1)=4*c.C+1:=XAM _ qd;go_enter func303,ntmps303;go_wp2_with (first|(go_at_call 203;refine(eH H.out _).mono ?_;rintro e w1 ⟨rfl,hb1⟩;obtain⟨hz1,hc1,hf1⟩:=bQ hb1 (w.heap.size+1) qbk)|(go_at_call 274;refine(yp H.out _).mono ?_;rintro e w2 ⟨rfl,hb2⟩;obtain⟨hz2,hc2,hf2⟩:=bQ hb2 (w.heap.size+1) qbk)|go_in);go_ret;exact⟨R,qa⟩
theorem rJ(h:c.Ok)(w:World):Z 307 #[dh c] w λe w'=>e=.returned (I (lI c))/\Below w w w':=by
 have h2:=h.c8;have h3:=h.o1;have h4:=h.o16;have H:=XAA h;clear h;rw [show lI c=4*(c.C:Int)+2 from rfl];have hw:IntKind.i64.wrap (4*(c.C:Int)+2)=4*c.C+2:=XAM _ qd;go_enter func307,ntmps307;go_wp2_with (first|(go_at_call 203;refine(eH H.out _).mono ?_;rintro e w1 ⟨rfl,hb1⟩;obtain⟨hz1,hc1,hf1⟩:=bQ hb1 (w.heap.size+1) qbk)|(go_at_call 274;refine(yp H.out _).mono ?_;rintro e w2 ⟨rfl,hb2⟩;obtain⟨hz2,hc2,hf2⟩:=bQ hb2 (w.heap.size+1) qbk)|go_in);go_ret;exact⟨R,qa⟩
theorem fX(h:c.Ok)(ai:Int)(w:World):Z 198 #[dh c,I ai] w λe w'=>e=.returned (I (bE c ai))/\Below w w w':=by
 have h2:=h.c8;have h3:=h.o1;have h4:=h.o16;have H:=XAA h;clear h;by_cases hi:0<=ai/\ai<32
 .rw [show bE c ai=4*c.C+4+4*ai from XAE hi];obtain⟨i0,i1⟩:=hi;have hw:IntKind.i64.wrap (4*ai)=4*ai:=XAM _ qd;have hw2:IntKind.i64.wrap (4*(c.C:Int)+4+4*ai)=4*c.C+4+4*ai:=XAM _ qd;go_enter func198,ntmps198;go_wp2_with (first|(go_at_call 203;refine(eH H.out _).mono ?_;rintro e w1 ⟨rfl,hb1⟩;obtain⟨hz1,hc1,hf1⟩:=bQ hb1 (w.heap.size+2) qbk)|go_in);(refine ba (w.heap.size+2) (λhxc aA hxh hxn=>?_);skip;(repeat (go_big_quiet_step ((go_at_call 221;exact dy (BL H.out _)))));refine XAG ?_;clear hxc aA hxh hxn;intro w1 hb1 hz1 hc1 hf1);go_wp2;go_ret;exact⟨R,qa⟩
 .rw [show bE c ai= -1 from XAD hi];rcases (by omega:ai<0\/(¬ai<0/\32<=ai)) with i0|⟨i0,i1⟩
  all_goals
   go_enter func198,ntmps198;go_wp2_with (first|(go_at_call 203;refine(eH H.out _).mono ?_;rintro e w1 ⟨rfl,hb1⟩;obtain⟨hz1,hc1,hf1⟩:=bQ hb1 (w.heap.size+2) qbk)|go_in);go_ret;exact⟨R,qa⟩
theorem nk(h:c.Ok)(ai:Int)(w:World):Z 300 #[dh c,I ai] w λe w'=>e=.returned (I (fz c ai))/\Below w w w':=by
 have h2:=h.c8;have h3:=h.o1;have h4:=h.o16;have H:=XAA h;clear h;by_cases hi:0<=ai/\ai<32
 .rw [show fz c ai=4*c.C+4+4*ai+2 from XAE hi];obtain⟨i0,i1⟩:=hi;have hw:IntKind.i64.wrap (4*ai)=4*ai:=XAM _ qd;have hw2:IntKind.i64.wrap (4*(c.C:Int)+4+4*ai)=4*c.C+4+4*ai:=XAM _ qd;have hw3:IntKind.i64.wrap (4*(c.C:Int)+4+4*ai+2)=4*c.C+4+4*ai+2:=XAM _ qd;go_enter func300,ntmps300;go_wp2_with (first|(go_at_call 203;refine(eH H.out _).mono ?_;rintro e w1 ⟨rfl,hb1⟩;obtain⟨hz1,hc1,hf1⟩:=bQ hb1 (w.heap.size+2) qbk)|go_in);(refine ba (w.heap.size+2) (λhxc aA hxh hxn=>?_);skip;(repeat (go_big_quiet_step ((go_at_call 221;exact dy (BL H.out _)))));refine XAG ?_;clear hxc aA hxh hxn;intro w1 hb1 hz1 hc1 hf1);go_wp2;go_ret;exact⟨R,qa⟩
 .rw [show fz c ai= -1 from XAD hi];rcases (by omega:ai<0\/(¬ai<0/\32<=ai)) with i0|⟨i0,i1⟩
  all_goals
   go_enter func300,ntmps300;go_wp2_with (first|(go_at_call 203;refine(eH H.out _).mono ?_;rintro e w1 ⟨rfl,hb1⟩;obtain⟨hz1,hc1,hf1⟩:=bQ hb1 (w.heap.size+2) qbk)|go_in);go_ret;exact⟨R,qa⟩
theorem iM(h:c.Ok)(ai aq:Int)(w:World):Z 147 #[dh c,I ai,I aq] w λe w'=>e=.returned (I (eK c ai aq))/\Below w w w':=by
 have h2:=h.c8;have h3:=h.o1;have h4:=h.o16;have H:=XAA h;clear h;by_cases hs:0<=ai/\ai<32
 .by_cases hi:0<=aq/\aq<c.O
  .rw [show eK c ai aq=4*c.C+4+128+ai*c.O+aq from XAE ⟨hs,hi⟩];obtain⟨s0,s1⟩:=hs;obtain⟨i0,i1⟩:=hi;have m1:0<=ai*(c.O:Int):=XCa s0 qd;have m2:ai*(c.O:Int)<=32*16:=Int.mul_le_mul qd qd qd qd;obtain⟨m,hm⟩:=Xq (ai*(c.O:Int));rw [hm] at m1 m2 ⊢;have hw:IntKind.i64.wrap (ai*(c.O:Int))=m:=by rw [hm];exact XAM _ qd
   have hw2:IntKind.i64.wrap (4*(c.C:Int)+4+128+m)=4*c.C+4+128+m:=XAM _ qd;have hw3:IntKind.i64.wrap (4*(c.C:Int)+4+128+m+aq)=4*c.C+4+128+m+aq:=XAM _ qd;clear hm;go_enter func147,ntmps147;go_wp2_with (first|(go_at_call 203;refine(eH H.out _).mono ?_;rintro e w1 ⟨rfl,hb1⟩;obtain⟨hz1,hc1,hf1⟩:=bQ hb1 (w.heap.size+3) qbk)|go_in);(refine ba (w.heap.size+3) (λhxc aA hxh hxn=>?_);skip;(repeat (go_big_quiet_step ((go_at_call 193;exact dy (GJ H.out _)))));refine XAG ?_;clear hxc aA hxh hxn;intro w1 hb1 hz1 hc1 hf1);go_wp2;go_ret;exact⟨R,qa⟩
  .rw [show eK c ai aq= -1 from XAD (λh=>hi h.2)];obtain⟨s0,s1⟩:=hs;rcases (by omega:aq<0\/(¬aq<0/\(c.O:Int)<=aq)) with i0|⟨i0,i1⟩
   all_goals
    go_enter func147,ntmps147;go_wp2_with (first|(go_at_call 203;refine(eH H.out _).mono ?_;rintro e w1 ⟨rfl,hb1⟩;obtain⟨hz1,hc1,hf1⟩:=bQ hb1 (w.heap.size+3) qbk)|go_in);go_ret;exact⟨R,qa⟩
 .rw [show eK c ai aq= -1 from XAD (λh=>hs h.1)];rcases (by omega:ai<0\/(¬ai<0/\32<=ai)) with i0|⟨i0,i1⟩
  all_goals
   go_enter func147,ntmps147;go_wp2_with (first|(go_at_call 203;refine(eH H.out _).mono ?_;rintro e w1 ⟨rfl,hb1⟩;obtain⟨hz1,hc1,hf1⟩:=bQ hb1 (w.heap.size+3) qbk)|go_in);go_ret;exact⟨R,qa⟩
theorem vk(ai:Int)(w:World):Z 284 #[dh c,I ai] w λe w'=>e=.returned (J (gC c ai:Int))/\Below w w w':=by
 have hk:(gC c ai:Int)=IntKind.u64.wrap ((c.key:Int)+IntKind.u64.wrap (IntKind.u64.wrap ai*11400714819323198485)):=by unfold gC;simp only [IntKind.wrap,IntKind.bits,IntKind.signed];have h0:0<=ai % 18446744073709551616:=XBH _ qf;rw [XES,XDb,XEU,XEV h0];simp [Int.add_emod]
 have HK:=XAA hk;clear hk;go_enter func284,ntmps284;go_wp2;go_ret;exact⟨by rw [HK.out];rfl,qa⟩
end
theorem Fine.down{U M:Nat->Int}(h:Fine U M){k:Nat}{n:Int}(h0:0<=n)(hq:n<=U k):Fine (upd U k (U k-n)) M:=by
 intro i hi;obtain⟨a,b,c,d⟩:=h i hi;unfold upd;by_cases hik:i=k
 .subst hik;rw [XAE rfl];omega
 .rw [XAD hik];exact⟨a,b,c,d⟩
theorem Io{U M:Nat->Int}{n:Int} :∀{xs:List Int},eR xs=true->rS U M n xs=0->∀k:Nat,((k:Int)+1)∈xs->n<=M k-U k
 | [],_,_,k,hk=>by cases hk
 |x::r,hg,hf,k,hk=>by
  have hx:=xZ hg (k:=0) ql;simp only [List.getElem_cons_zero] at hx;have hgr:eR r=true:=by unfold eR at hg ⊢;rw [List.all_cons,XAt] at hg;exact hg.2
  by_cases hq:n<=M (x-1).toNat-U (x-1).toNat
  .have hf':rS U M n r=0:=by
    have:rS U M n (x::r)=rS U M n r:=by show(bif decide _ then _ else _)=_;rw [XAR hq];rfl
    rw [<-this];exact hf
   rcases XBD.1 hk with h|h
   .rw [<-h,show((k:Int)+1-1).toNat=k from qd] at hq;exact hq
   .exact Io hgr hf' k h
  .have:rS U M n (x::r)=x:=by
    show(bif decide _ then _ else _)=_;rw [XAS hq];rfl
   rw [this] at hf;omega
theorem YZ{U:Nat->Int}{n:Int}{xs:List Int}(h:jl U n xs=true)(k:Nat)(hk:((k:Int)+1)∈xs):n<=U k:=by
 unfold jl at h;have:=XBu.1 h _ hk;rw [show((k:Int)+1-1).toNat=k from qd] at this;simpa using this
theorem Fine.try{U M:Nat->Int}(h:Fine U M){xs:List Int}{n:Int}(he:de xs n=0)(hf:rS U M n xs=0):Fine (ig U xs n) M:=by
 obtain⟨hg,hfit⟩:=ya.1 he;obtain⟨-,-,-,h0,h1⟩:=tN.1 hfit;intro k hk;obtain⟨a,b,c,d⟩:=h k hk;unfold ig;by_cases hm:((k:Int)+1)∈xs
 .rw [XAE hm];have:=Io hg hf k hm;omega
 .rw [XAD hm];exact⟨a,b,c,d⟩
theorem Fine.aw{U M:Nat->Int}(h:Fine U M){xs:List Int}{n:Int}(h0:0<=n)(hl:jl U n xs=true):Fine (ig U xs (-n)) M:=by
 intro k hk;obtain⟨a,b,c,d⟩:=h k hk;unfold ig;by_cases hm:((k:Int)+1)∈xs
 .rw [XAE hm];have:=YZ hl k hm;omega
 .rw [XAD hm];exact⟨a,b,c,d⟩
theorem PO{xs:List Int}{n:Int}(h:de xs n=0):1<=xs.length/\xs.length<=8/\0<=n/\n<=9007199254740991:=by
 obtain⟨-,h2⟩:=ya.1 h;obtain⟨-,h3,h4,h5,h6⟩:=tN.1 h2;exact⟨h3,h4,h5,h6⟩
theorem PV(w:World)(b:Nat)(U M:Nat->Int)(hC:aV w b U M)(hF:Fine U M)(xs:List Int)(m:Nat)(hm:Hid (xs.length=m))(n:Int)(A:Option Addr)(c:Nat)(hR:Row w A (fw xs))(VG:∀g off,A=some ⟨g,off,none⟩->g≠b)(he:Hid (de xs n=0)):
  Z 130 #[(b,0),.slice A m c,I n] w (Eu w b U M xs n):=by
 obtain⟨h1,h8,-,-⟩:=PO he.out;rw [hm.out] at h1 h8;obtain⟨g,off,rfl,hg,hc⟩:=hR (by rw [JF,hm.out];exact h1);exact PX w b U M hC hF xs m hm h8 n g off c (VG g off R) hg hc hR he
end Go.Proofs.YtedefgjfgdcfdaaGreatDoor
