/- Walks and laws for TopPages. -/
import Derived.Test.YtedefgjfgdcfdaaGreatDoorQ32
namespace Go.Proofs.YtedefgjfgdcfdaaGreatDoor
open Go.RowKit Go.Proofs.Tryz
set_option maxRecDepth 100000
set_option maxHeartbeats 4000000
section
variable{A:KA}{M M1 M2:KS}{w w' w2:World}{i k:Nat}{x:Cc}{y:Hn}
theorem Zb(P:List Nat):P.map nV=fw (P.map λn:Nat=>Int.ofNat n):=by
 show _=List.map _ (List.map _ P);rw [XC8];rfl
theorem XE(h:KM A w M){g:Int}(B:Option Addr)(c m:Nat)(hm:(c_ M.G (cf M.tn g)).length=m)(hR:Row w B ((c_ M.G (cf M.tn g)).map nV))(hB:∀g off,B=some ⟨g,off,none⟩->M.cl g=0)(n:Int):Z 130 #[(A.ep,0),.slice B m c,I n] w λe w'=>∃r:Int,e=.returned (I r)/\KG [3] A M M w w':=by
 have hl:=XAL (sx h.tr.ok g) h.tr.ok.n2;have hc:=XD h ((c_ M.G (cf M.tn g)).map λn:Nat=>Int.ofNat n) n B c (by rw [<-Zb];exact hR) hB qj;rw [XAY,hm] at hc;exact hc
def yE(y:Hn)(g:Int):Hn:= { y with gr:=g }
theorem Yb(h:KM A w M)(hs:M.s<=30000)(o a b c:Int):Z 85 #[(A.kb,0),.agg #[I o,I a,I b,I c]] w (FA A M w):=by
 have hnew:=h.new;have hz:M.cl w.heap.size=0:=hnew _ (XAB _);have hbx:=ak.new w 63 #[I o,I a,I b,I c];have HC:=XAA h;have n1:=h.tr.ok.n1;have n2:=h.tr.ok.n2;obtain⟨q,hq⟩:∃q:Nat,(q:Int)=a % (M.tn:Int):=⟨(a % (M.tn:Int)).toNat,by have:=XBH a (show(M.tn:Int)≠0 from qd);omega⟩;have hq1:q<M.tn:=by have:=XBW a (show(0:Int)<(M.tn:Int) from qd);omega
 have HQ:Hid (IntKind.i64.wrap (1+(q:Int))=(q:Int)+1):=XAA (by rw [show IntKind.i64.wrap (1+(q:Int))=1+(q:Int) from XAM _ qd];omega);have HW:Hid (∀W,Z 118 #[I a,I M.tn] W λe w'=>e=.returned (I q)/\w'=W):=XAA λW=>(lM a (M.tn:Int) qd qd W).mono λe w' ⟨h1,h2⟩=>⟨by rw [h1,hq],h2⟩;clear h hq;go_enter func85,ntmps85;go_upto_region 1 with fail
 refine bg (λw0 hw0=>?_);rw [<-hw0] at hbx;have hb0:Below w w w0:=qfz
 have HB0:=XAA hb0;have bP:=XAA (HC.out.below hb0);have k4:=bP.out.rd.k4;have x1:w0.cell? (w.heap.size,1)=I a:=hbx.cell 1;clear hw0 hbx;go_region_held3 (λw'=>w'.cell? (A.kb,4)=some (.pointer (A.tb,0))/\w'.cell? (w.heap.size,1)=I a) (exact⟨qm,qm⟩) (first|(go_at_call 123;refine Xr (D7 _ bP.out.drew.tr) ?_)|(go_at_call 118;refine Xr (HW.out _) ?_));rw [HQ.out];have xA:=XAA bP.out.drew;have WX:=xA.out.rd.k4;clear k4 x1;go_upto_region 3 with(go_at_call 127;(refine(Yc xA.out hq1).mono ?_);rintro e w1 ⟨er,c1,G1,rfl,h1⟩;have H1:=XAA h1;clear h1)
 obtain⟨M1,hM1⟩:∃M1,{ M with cl:=c1,G:=G1 } =M1:=⟨_,R⟩;have ia:Hid (KG [2,3,4,5,9] A M M1 w w1):=XAA (by rw [<-hM1];exact((H1.out.from_ ((XAC _ w0).drew)).from_ hb0).more ql);have fU:Hid (Sn M M1/\M1.s=M.s):=XAA (by rw [<-hM1];exact⟨⟨R,R,XAB _,R,XAB _⟩,R⟩);obtain⟨C,hC⟩:=Xq A.C;have sX:=XAA hC;have yF:C<=8:=by rw [<-hC];exact HC.out.ok.c8
 have k0:=ia.out.km.rd.k0;have a8:=ia.out.km.rd.lt;rw [hC] at k0;clear hM1 hC hb0 WX hz;rcases (by cases(er !=0)<;>simp:(er !=0)=true\/(er !=0)=false) with he|he
 .clear k0;go_wp2;go_ret;exact⟨er,M1,R,ia.out.km,ia.out.kf qf,fU.out.1,by rw [fU.out.2];exact XAU _⟩
 .have HE:Hid (er=0):=XAA (by simpa using he);clear H1;go_wp2;go_loopw [7,8,9,10,11,40] (λ_ _ _ _ _ z wr=>∃j:Nat,z=I j/\j<=C/\KG [2,3,4,5,9] A M M1 w wr) (λ_ _ _ _ _ z _=>C-(intOf z).toNat)
  case atStart=>exact⟨0,R,XAJ _,ia.out⟩
  case round=>
   obtain⟨j,rfl,Wc,hk⟩:=hrel;have HK:=XAA hk;have k4:=hk.km.rd.k4;have k5:=hk.km.rd.k5;have k6:=hk.km.rd.k6;have a8:=hk.km.rd.lt;clear hk k0;by_cases hj:j<C
   .have b1:(j:Int)<(C:Int):=by omega
    have HJ:Hid (j<A.C):=XAA (by rw [sX.out];exact hj);go_upto_region 9 with(go_at_call 128;(refine(X2 HK.out.km HJ.out).mono ?_);rintro e w5 ⟨u,v,rfl,hb5⟩;have bV:=XAA hb5;clear hb5)
    have bm:=XAA (HK.out.eZ bV.out);have Db:=bm.out.km.rd.k4;have WY:=bm.out.km.rd.k5;have v_:=bm.out.km.rd.k6;have Dj:=bm.out.km.rd.lt;clear k4 k5 k6 a8;rcases (by cases(u==(q:Int)+1)<;>simp:(u==(q:Int)+1)=true\/(u==(q:Int)+1)=false) with hu|hu
    .go_upto_region 11 with(go_at_call 129;(refine(XU bm.out.km HJ.out).mono ?_);rintro e w6 ⟨u6,v6,rfl,h6⟩;have cG:=XAA (bm.out.trans (h6.more (cZ:= [2,3,4,5,9]) ql));have z4:=h6.km.rd.k4;have z5:=h6.km.rd.k5;have gv:=h6.km.rd.lt;clear h6)
     have HD6:=XAA cG.out.km.drew;clear Db WY v_ Dj;go_region_held3 (λw'=>w'.cell? (A.kb,4)=some (.pointer (A.tb,0))/\w'.cell? (A.kb,5)=some (.pointer (A.ep,0))) (exact⟨qm,qm⟩) (first|(go_at_call 98;refine(uB _ HD6.out.tr ((q:Int)+1)).mono ?_;rintro e w7 ⟨v7,rfl,eU,hb7⟩;obtain⟨B7,c7,rfl,ph⟩:=Row.slice eU;have oy:=XAA hb7;have r_:=HD6.out.below hb7;have dd:=XAA r_;have uG:=r_.rd.k4;have z5':=r_.rd.k5;have uW:=XAA ph;have rm:=XAA (sr eU);obtain⟨m7,CT⟩:=Xq ((c_ M1.G (cf M1.tn ((q:Int)+1))).length);have Nv:=XAA CT;rw [CT];clear eU hb7 r_ ph CT)|(go_at_call 130;(refine(XE dd.out B7 c7 m7 Nv.out uW.out (λg off e=>HD6.out.new g (rm.out g off e).1) v6).mono ?_);rintro e w8 ⟨r8,rfl,h8⟩;have jx:=XAA h8;have adi:=h8.km.rd.k4;have adk:=h8.km.rd.k5;clear h8));have rj:Hid (KG [2,3,4,5,9] A M M1 w w8):=XAA (cG.out.trans (KG.from_ (jx.out.more ql) (((XAC _ w6).drew).trans oy.out)));clear z4 z5 uG z5' adi adk gv;go_wp2;go_roundw
     case rel=>exact⟨j+1,qbf,hj,rj.out⟩
     case measure=>simp [intOf];omega
    .go_wp2;go_roundw
     case rel=>exact⟨j+1,qbf,hj,bm.out⟩
     case measure=>simp [intOf];omega
   .obtain rfl:j=C:=by omega
    clear k4 k5 k6 a8;have k4:=HK.out.km.rd.k4;have a8:=HK.out.km.rd.lt;go_upto_region 14 with(go_at_call 111;refine(Ab _ HK.out.km.tr ((q:Int)+1)).mono ?_;rintro e w5 ⟨rfl,hb5⟩;have bV:=XAA hb5;clear hb5)
    obtain⟨hr,kP⟩:=Xq (kO M1.tn M1.G (c_ M1.G (cf M1.tn ((q:Int)+1))));rw [kP];have bm:=XAA (HK.out.eZ bV.out);have k7:=bm.out.km.rd.k7;have wi:=bm.out.km.rd.lt;clear k4 a8 kP;go_upto_region 15 with(go_at_call 131;(refine(X_ bm.out.km (by have:=fU.out.2;omega) _ _).mono ?_);rintro e w6 ⟨r6,yx,rfl,h6⟩;have cG:=XAA (bm.out.trans (h6.more (cZ:= [2,3,4,5,9]) ql));clear h6)
    obtain⟨B,cap,hv,hcap⟩:=Own.slice (show Own _ 9 w6 68 5 M1.hv M1.hs.length (M1.hs.flatMap cB) from cG.out.km.hs);obtain⟨L,hL⟩:=Xq M1.hs.length;have k28:=cG.out.km.rd.k28;have Xp:=cG.out.km.rd.lt;rw [hL] at hv hcap;rw [hv] at k28;have HV:=XAA hv;have HL:=XAA hL;have hL6:L<=900000:=by have:=cG.out.km.ok.hs;have:=fU.out.2;omega
    clear k7 wi hv hL;go_wp2;go_loopw [13,14,104] (λ_ _ z wr=>∃(j:Nat)(l:List Hn),z=I j/\j<=L/\l.length=L/\KG [2,3,4,5,9] A M { M1 with hs:=l } w wr) (λ_ _ z _=>L-(intOf z).toNat)
    case atStart=>exact⟨0,_,R,XAJ _,HL.out,cG.out⟩
    case round=>
     obtain⟨j,l,rfl,I_,hl,hk⟩:=hrel;have oC:=XAA hl;have dd:=XAA hk;clear hl hk k28 Xp;by_cases hj:j<L
     .have b1:(j:Int)<(L:Int):=by omega
      have a1:¬(j:Int)<0:=qd;have a2:¬L<=j:=qd;obtain⟨y,hy⟩:∃y,l[j]? =some y:=⟨_,XAO (by rw [oC.out];exact hj)⟩;obtain⟨gh,cap',hv',-,hrd⟩:=dd.out.km.hav (n:=j) (by show j<l.length;rw [oC.out];exact hj);have e:=HV.out.symm.trans hv';injection e with e1 e2 e3;subst e1;obtain⟨gO,hfz,r0,r1,r2,r3,r4⟩:=hrd j y hy;have HY:=XAA hy;have k28:=dd.out.km.rd.k28;rw [show({ M1 with hs:=l } :KS).hv=_ from HV.out] at k28;have a8:=dd.out.km.rd.lt;have f3:=hfz (j*5+3);have xy:Hid (M1.hv=.slice (gh,0) l.length cap):=XAA (by rw [oC.out];exact HV.out);clear hrd hv' e2 e3 hy hfz;cases ho:y.out with
      |false=>
       rw [ho] at r4;clear ho;go_wp2;go_roundw
       case rel=>exact⟨j+1,l,qbf,hj,oC.out,dd.out⟩
       case measure=>simp [intOf];omega
      |true=>
       rw [ho] at r4;rcases (by cases(y.gr==(q:Int)+1)<;>simp:(y.gr==(q:Int)+1)=true\/(y.gr==(q:Int)+1)=false) with hg|hg
       .have hg':y.gr=(q:Int)+1:=by simpa using hg
        rw [hg'] at r3;have hcy:=dd.out.km.ok.hc y (XAi HY.out);obtain⟨x,hx⟩:=lC (M:=M1) (n:=y.ca) hcy;have HX:=XAA hx;have sY:Hid (y.ca<M1.cs.length):=XAA hcy;clear ho hg hg' hx hcy;go_upto_region 21 with fail
        refine bg (λW hW=>?_);have hk:=dd.out.km.hcell (j:=3) (z:=yE y hr) (v:=I hr) xy.out HY.out qf R rfl;rw [<-hW] at hk;obtain⟨gc,ni,hcv,CG,hci,hgl⟩:=hk.km.gK HX.out;have k27:W.cell? (A.kb,27)=some (.slice (gc,0) M1.cs.length ni):=(hk.km.rd.k27).trans (XAK some hcv);obtain⟨xlt,uF,-,-,-,-,-,-,-,x9,-⟩:=hk.km.cw HX.out;have a8:=hk.km.rd.lt;obtain⟨gO,-,s0,-⟩:=hk.km.hat (n:=j) (y:=yE y hr) xy.out (by show(l.set j (yE y hr))[j]? =_;rw [XDA (by rw [oC.out];exact hj)]);have q0:W.cell? (gh,j*5)=some (nV y.ca):=s0;have d1:¬(y.ca:Int)<0:=qd
        have d2:¬M1.cs.length<=y.ca:=by have:=sY.out;omega
        have jx:Hid (KG [2,3,4,5,9] A M { M1 with hs:=l.set j (yE y hr) } w W):=XAA (dd.out.trans (hk.more ql));clear s0 hk hW hcv r0 r1 r2 r3 r4 k28 f3;(refine bN 19 (W.heap.size) ?_;intro hxc aA hxh hxn;simp only [List.take,List.drop];(repeat (first|go_big_quiet_step (fail)|quiet_step (fail)));refine XAG ?_;clear hxc aA hxh hxn;intro w1 hb1 hz1 hc1 hf1);clear hc1 hf1;have rj:=XAA (jx.out.eZ hb1);clear hb1 q0 k27 hci x9;go_wp2_with (go_at_call 113;(refine(Dp rj.out.km _ _).mono ?_);rintro e w8 ⟨rfl,h8⟩;have No:=XAA (rj.out.trans (h8.more (cZ:= [2,3,4,5,9]) ql));clear h8);go_roundw
        case rel=>exact⟨j+1,_,qbf,hj,by rw [XAk];exact oC.out,No.out⟩
        case measure=>simp [intOf];omega
       .clear ho;go_wp2;go_roundw
        case rel=>exact⟨j+1,l,qbf,hj,oC.out,dd.out⟩
        case measure=>simp [intOf];omega
     .obtain rfl:j=L:=by omega
      go_wp2;go_ret;exact⟨0,_,R,dd.out.km,dd.out.kf qf,⟨fU.out.1.fr,fU.out.1.ds,fU.out.1.cs,by show l.length=_;rw [oC.out,<-HL.out];exact fU.out.1.hs,fU.out.1.s⟩,by show M1.s<=_;rw [fU.out.2];exact XAU _⟩
end
section
variable{A:KA}{M M1 M2:KS}{w w' w2:World}{i k p nx:Nat}{x:Cc}{y:Hn}{aM:Int}
theorem iZ.pre{f:Fm}{n:Nat}{W:World}(h:iZ A M p nx w W f)(hn:f.acts.length=n):∃B cap,W.cell? (p,3)=some (.slice B n cap)/\W.frozen? (p,3)=false/\p<W.heap.size/\f.av=.slice B n cap/\(∀ob:Obj,(W.alloc ob).ownsRow 0 20 1 (.slice B n cap) n (f.acts.map aF))/\∀(ob:Obj)(w3:World),(W.alloc ob).grownBy w3 (Value.slice B n cap).ownBlock->w3.heap[p]? =W.heap[p]? :=by
 subst hn;obtain⟨B,cap,hav,-⟩:=Own.slice h.fp.av;have b6:=h.fp.blk.lt;refine⟨B,cap,(h.fp.blk.cell 3).trans (XAK some hav),h.fp.blk.frozen 3,b6,hav,λob=>?_,λob w3 hg=>?_⟩
 .have:=(Own.below h.fp.av ((XAC _ W).alloc (XAB _) ob)).1;rw [hav] at this;exact this
 .exact(hg.block p qj λe=>own_ne h.fp.av.1 h.fp.blk qf (by rw [hav];exact e.symm)).trans (XAX W _ _ b6)
def Od(A:KA)(M:KS)(p nx:Nat)(w:World)(e:Ending)(w':World):Prop:=e=.returned (.tuple #[])/\∃M' f,ky A M M' p nx w w' f
theorem XV(h:KM A w M)(hs:M.s<=30000)(hp:Fp M.cl w p (gM nx aM))(o a b c:Int):Z 86 #[(A.kb,0),I k,.pointer (p,0),.agg #[I o,I a,I b,I c]] w (Od A M p nx w):=by
 have HC:=XAA h;have HP:=XAA hp;have hz0:M.cl w.heap.size=0:=h.new _ (XAB _);have Wo:=hp.blk.lt;obtain⟨C,hC⟩:=Xq A.C;have sX:=XAA hC;have yF:C<=8:=by rw [<-hC];exact h.ok.c8
 clear h hp hC;go_enter func86,ntmps86;go_upto_region 1 with fail
 refine bg (λW hW=>?_);have hcb:ak W w.heap.size 63 #[I o,I a,I b,I c]:=qdt
 have HB0:Hid (Below w w W):=XAA qbq;have bP:=XAA (HC.out.below HB0.out);have ke:=XAA (HP.out.below HB0.out);have dD:Hid (KF [p] M.cl M.cl w W):=XAA (KF.below [p] _ HB0.out);have y0:W.cell? (w.heap.size,0)=I o:=hcb.cell 0;have y1:W.cell? (w.heap.size,1)=I a:=hcb.cell 1;have ylt:=hcb.lt;clear hW hcb;obtain⟨i,hi⟩:=Xq ((findF M a).1);obtain⟨er,her⟩:=Xq ((findF M a).2);have hil:er=0->i<M.cs.length:=λh0=>by rw [<-hi];exact Cf (by rw [her];exact h0)
 have hfd:=yY bP.out a;rw [hi,her] at hfd;have HF:=XAA hfd;have EW:=XAA hil;clear hi her hfd hil;go_upto_region 2 with(go_at_call 122;refine HF.out.mono ?_;rintro e w5 ⟨rfl,hb5⟩;have bV:=XAA hb5;clear hb5)
 have bm:=XAA (bP.out.below bV.out);have fj:=XAA (ke.out.below bV.out);have ma:=XAA (dD.out.trans (KF.below [p] _ bV.out));have p11:w5.cell? (p,11)=I 0:=fj.out.blk.cell 11;have DO:=fj.out.blk.frozen 11;have b6:=fj.out.blk.lt;have z0:=(bV.out.cell (p:=⟨w.heap.size,0,none⟩) ylt).trans y0;have gv:=XAH ylt bV.out.size;clear y0 y1 ylt HF;rcases (by cases(er !=0)<;>simp:(er !=0)=true\/(er !=0)=false) with q2|q2
 .go_wp2;(first|go_end0|refine Xe ?_);obtain⟨e1,e2,e3⟩:=Fp.fe bm.out fj.out er;exact⟨rfl,M,_,e1,e2,ma.out.trans e3,rfl,rfl,λa ha=>qdh,XAJ _,XAJ _,λh hh=>qjk,R,R,qd,R,λg hg=>qce,λg hg=>qce⟩
 .have hic:=EW.out qcu;obtain⟨x,hx⟩:=lC (M:=M) (n:=i) hic;have HX:=XAA hx;have EV:=XAA hic;have CO:i<8:=XAH hic HC.out.ok.cs;clear hx hic EW
  go_upto_if 27 with fail
  generalize hbq:(o==8)=bq;clear hbq;go_cut [] from 28 to 72 (λwx=>∃M3,KM A wx M3/\Fp M3.cl wx p (gM nx aM)/\KF [p] M.cl M3.cl w wx/\M3.fr=M.fr/\M3.ds=M.ds/\M3.s=M.s/\M3.hs=M.hs/\M3.cs.length=M.cs.length/\M3.cl=M.cl/\wx.cell? (w.heap.size,0)=I o/\w.heap.size<wx.heap.size)
  case first=>
   cases bq with
   |true=>
    obtain⟨gc,ni,hcv,CG,hci,hgl⟩:=bm.out.gK HX.out;have k27:w5.cell? (A.kb,27)=some (.slice (gc,0) M.cs.length ni):=bm.out.rd.k27.trans (XAK some hcv);have k26:=bm.out.rd.k26;have a8:=bm.out.rd.lt;have xr:=bm.out.cw HX.out;have c3:=xr.c3;have xlt:=xr.lt;have xf3:=xr.frz 3;have a1:¬(i:Int)<0:=qd
    have a2:¬M.cs.length<=i:=XBU.2 EV.out;obtain⟨dp,hdp⟩:=Xq (oS M.gr k);have sZ:Hid (Z 62 #[(A.gb,0),I k] w5 λe w'=>e=.returned (I dp)/\w'=w5):=XAA (by rw [<-hdp];exact J0 bm.out k);clear xr hcv hdp;rcases (by cases(dp !=0)<;>simp:(dp !=0)=true\/(dp !=0)=false) with q3|q3
    .go_wp2_with (go_at_call 62;refine sZ.out.mono ?_;rintro e wv ⟨rfl,hw1⟩;replace hw1:=hw1.symm;subst hw1);(first|go_end0|refine Xe ?_);obtain⟨e1,e2,e3⟩:=Fp.fe bm.out fj.out 292;exact⟨rfl,M,_,e1,e2,ma.out.trans e3,rfl,rfl,λa ha=>qdh,XAJ _,XAJ _,λh hh=>qjk,R,R,qd,R,λg hg=>qce,λg hg=>qce⟩
    .by_cases hr:1<x.refs
     .have xF:=XAA (bm.out.KU HX.out (wrap64 (x.refs-1)));go_wp2_with (go_at_call 62;refine sZ.out.mono ?_;rintro e wv ⟨rfl,hw1⟩;replace hw1:=hw1.symm;subst hw1);(first|go_end0|refine Xe ?_);have e1:=xF.out;have e3:=e1.kf qj;exact⟨rfl,_,gM nx aM,e1.km,fj.out.kf e3,ma.out.then_ e3,rfl,rfl,λa ha=>qdh,XAJ _,XAJ _,λh hh=>qjk,R,R,qeo,R,λg hg=>qce,λg hg=>qce⟩
     .have xn:=XAA (XK bm.out hs i);go_wp2_with (first|(go_at_call 62;refine sZ.out.mono ?_;rintro e wv ⟨rfl,hw1⟩;replace hw1:=hw1.symm;subst hw1)|(go_at_call 132;(refine xn.out.mono ?_);rintro e w6 ⟨⟨bz,rfl⟩,hb6⟩;have dw:=XAA hb6;have hk6:=bm.out.below hb6;have cG:=XAA hk6;have jK:=fj.out.below hb6;have xD:=XAA jK;have adK:w6.cell? (p,11)=I 0:=jK.blk.cell 11;have adt:=jK.blk.frozen 11;have adO:=jK.blk.lt;have c46:=(hk6.cw HX.out).c4;have xf6:=(hk6.cw HX.out).frz 4;have acY:=(hk6.cw HX.out).lt;clear hb6 hk6 jK;cases bz))
      .go_meet;have e1:=cG.out.ZN HX.out false;have e3:=e1.kf qj;exact⟨_,e1.km,xD.out.kf e3,(ma.out.trans (KF.below [p] _ dw.out)).then_ e3,R,R,R,R,qey,R,(XAP (a:=⟨w.heap.size,0,none⟩) (e3.blk _ (XAH gv dw.out.size) ql hz0)).trans ((dw.out.cell (p:=⟨w.heap.size,0,none⟩) gv).trans z0),XAH (XAH gv dw.out.size) e3.size⟩
      ·(first|go_end0|refine Xe ?_);obtain⟨e1,e2,e3⟩:=Fp.fe cG.out xD.out 291;exact⟨rfl,M,_,e1,e2,(ma.out.trans (KF.below [p] _ dw.out)).trans e3,rfl,rfl,λa ha=>qdh,XAJ _,XAJ _,λh hh=>qjk,R,R,qd,R,λg hg=>qce,λg hg=>qce⟩
   |false=>
    go_wp2;go_meet;exact⟨M,bm.out,fj.out,ma.out,R,R,R,R,R,R,z0,gv⟩
  case rest=>
   obtain⟨M3,h3,p3,f3,s1,s2,s3,s4,s5,s6,z0',xe⟩:=hcut;have F3:=XAA f3;have S3:=XAA (And.intro s1 (And.intro s2 (And.intro s3 (And.intro s4 s5))));have HI0:Hid (iZ A M3 p nx wc wc (gM nx aM)):=XAA ⟨h3,p3,KF.refl _ _ _,R,R,R,R,R,λa ha=>qdh,λg hg=>qce⟩;have hic:i<M3.cs.length:=by rw [s5];exact EV.out
   have hz3:M3.cl w.heap.size=0:=by rw [s6];exact hz0
   have k0:=h3.rd.k0;rw [sX.out] at k0;have a8:=h3.rd.lt;clear h3 p3 f3 s1 s2 s3 s4 s5 s6 z0 gv p11 DO b6;go_wp2;go_loopw [11,78] (λ_ z wr=>∃(j:Nat)(f:Fm),z=I j/\j<=C/\iZ A M3 p nx wc wr f/\f.acts.length=j) (λ_ z _=>C-(intOf z).toNat)
   case atStart=>exact⟨0,_,R,XAJ _,HI0.out,R⟩
   case round=>
    obtain⟨j,f,rfl,Wc,hI,hn⟩:=hrel;have HI:=XAA hI;have HN:=XAA hn;have zb:wr.cell? (w.heap.size,0)=I o:=(XAP (w:=wc) (a:=⟨w.heap.size,0,none⟩) (hI.kf.blk _ xe qj hz3)).trans z0';have adl:=XAH xe hI.kf.size;clear hI hn k0 a8;by_cases hj:j<C
    .have b1:(j:Int)<(C:Int):=by omega
     obtain⟨B,cap,q3,qfz,b6,hav,hao,hfb⟩:=HI.out.pre HN.out;have ov:=XAA hav;have ea:=XAA hao;have mX:=XAA hfb;clear hav hao hfb;go_wp2_with (at_builtin;refine iW gg R qf fV qu _ _ qu _ j (f.acts.map aF) qu (ea.out _) (some ⟨wr.heap.size,0,none⟩) 1 1 [aF ⟨173,3,3,i,j⟩] qu (Reads.act wr _ ⟨173,3,3,i,j⟩) qk qd qf qd ?_;intro g3 cap3 w3 ho3 hg3 hq3;have hfn:=mX.out _ w3 hg3;have hy:=(XAP (w:=wr) (a:=⟨p,3,none⟩) hfn).trans q3;have hz:=(XAh (w:=wr) (a:=⟨p,3,none⟩) hfn).trans qfz;clear hfn);go_roundw
     case rel=>
      have h7:=HI.out.app [⟨173,3,3,i,j⟩] 1 R HN.out ho3 qft qfu (λq hq=>qcm);exact⟨j+1,_,qbf,hj,h7,qdg⟩
     case measure=>simp [intOf];omega
    .obtain rfl:j=C:=by omega
     obtain⟨B,cap,q3,qfz,b6,hav,hao,hfb⟩:=HI.out.pre HN.out;have ov:=XAA hav;have ea:=XAA hao;have mX:=XAA hfb;clear hav hao hfb;go_upto_region 19 with(at_builtin;refine iW gg R qf fV qu _ _ qu _ j (f.acts.map aF) qu (ea.out _) (some ⟨wr.heap.size,0,none⟩) 1 1 [aF ⟨173,3,4,i,0⟩] qu (Reads.act wr _ ⟨173,3,4,i,0⟩) qk qd qf qd ?_;intro g3 cap3 w3 ho3 hg3 hq3;have hfn:=mX.out _ w3 hg3;have hy:=(XAP (w:=wr) (a:=⟨p,3,none⟩) hfn).trans q3;have hz:=(XAh (w:=wr) (a:=⟨p,3,none⟩) hfn).trans qfz;clear hfn)
     have h7:=HI.out.app [⟨173,3,4,i,0⟩] 1 R HN.out ho3 qft qfu (λq hq=>qcm);refine bg (λW2 hW2=>?_);rw [<-hW2] at h7;obtain⟨f2,h8,hn2⟩:∃f2,iZ A M3 p nx wc W2 f2/\f2.acts.length=j+1:=⟨_,h7,qdg⟩;have zb2:W2.cell? (w.heap.size,0)=I o:=(XAP (w:=wc) (a:=⟨w.heap.size,0,none⟩) (h8.kf.blk _ xe qj hz3)).trans z0';have adv:=XAH xe h8.kf.size;obtain⟨n,en⟩:=Xq (j+1);rw [en] at hn2;have Jf:n<=9:=qd
     have H8:=XAA h8;have jy:=XAA hn2;obtain⟨B2,cap2,q32,Z8,adM,IM,tY,I6⟩:=h8.pre hn2;have EK:=XAA IM;have MQ:=XAA tY;have Nc:=XAA I6;clear hW2 h7 h8 hn2 ho3 hg3 hq3 hy hz ov ea mX zb adl q3 qfz b6 IM tY I6;by_cases ho:o=8
     .subst ho;go_wp2_with (at_builtin;refine iW gg R qf fV qu _ _ qu _ n (f2.acts.map aF) qu (MQ.out _) (some ⟨W2.heap.size,0,none⟩) 1 1 [aF ⟨176,8,i,0,0⟩] qu (Reads.act W2 _ ⟨176,8,i,0,0⟩) qk qd qf qd ?_;intro g3 cap3 w3 ho3 hg3 hq3;have hfn:=Nc.out _ w3 hg3;have hy:=(XAP (w:=W2) (a:=⟨p,3,none⟩) hfn).trans q32;have hz:=(XAh (w:=W2) (a:=⟨p,3,none⟩) hfn).trans Z8;clear hfn);(first|go_end0|refine Xe ?_);have h9:=H8.out.app [⟨176,8,i,0,0⟩] 1 rfl jy.out ho3 (by rw [EK.out];exact hg3) (by rw [EK.out];exact hq3) (λq hq=>by simp at hq;subst hq;exact .inr (.inr ⟨R,qdc,λh=>qer,λ_=>qgc⟩));exact⟨R,M3,_,h9.km,h9.fp,F3.out.trans h9.kf,h9.nx,h9.bu,h9.ac,by show(f2.acts++_).length<=_;rw [XAZ,jy.out];simp;omega,qhr,λq hq=>qjh,S3.out.1,S3.out.2.1,by rw [S3.out.2.2.1];omega,by rw [S3.out.2.2.2.1],λg hg=>XAL F3.out.size (h9.new g hg),λg hg=>qji⟩
     .have ho':(o==8)=false:=by simpa using ho
      go_wp2;(first|go_end0|refine Xe ?_);have h9:=H8.out;exact⟨rfl,M3,f2,h9.km,h9.fp,F3.out.trans h9.kf,h9.nx,h9.bu,h9.ac,by rw [jy.out];omega,qhr,λq hq=>qjh,S3.out.1,S3.out.2.1,by rw [S3.out.2.2.1];omega,by rw [S3.out.2.2.2.1],λg hg=>XAL F3.out.size (h9.new g hg),λg hg=>qji⟩
end
end Go.Proofs.YtedefgjfgdcfdaaGreatDoor
