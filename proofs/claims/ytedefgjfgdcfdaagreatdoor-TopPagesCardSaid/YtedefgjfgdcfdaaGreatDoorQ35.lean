/- Walks and laws for TopPages. -/
import Derived.Test.YtedefgjfgdcfdaaGreatDoorQ30
namespace Go.Proofs.YtedefgjfgdcfdaaGreatDoor
open Go.RowKit Go.Proofs.Tryz
set_option maxRecDepth 100000
set_option maxHeartbeats 4000000
section
variable{A:KA}{M M1 M2:KS}{w w' w2:World}{i k:Nat}{x:Cc}{y:Hn}
def Om(A:KA)(M:KS)(i:Nat)(x:Cc)(t:Tk)(w:World)(e:Ending)(w':World):Prop:=
 ∃(t':Tk)(M':KS),e=.returned (aH t')/\KM A w' M'/\KF [] M.cl M'.cl w w'/\Sm M M'/\M'.s<=M.s+3/\
  (¬ic M.T A.ae.n x.ly.ord.toNat 11->oq x.ch x.ws x.Q->t'=eA t true 0/\M'.gr=M.gr/\∃P q,M'.cs=M.cs.set i { x.upd x.ws x.n (fW x.Q t') q with P:=P })
theorem Kg{α:Type}{l:List α}{i:Nat}{x y:α}(hi:l[i]? =some x):(l.set i y)[i]? =some y:=by
 rw [XDA (lt_of_some hi)]
theorem BX{y:Cc}(hi:M.cs[i]? =some x):(M.cs.set i y)[i]? =some y:=by
 rw [XDA (lt_of_some hi)]
theorem Pl{A:KA}{M:KS}{o:Nat}{w:World}{e:Ending}{w':World}(h:Fz A M o w e w'):∃(c1:Nat->Nat)(T1:Tab)(L1:Nat->List Nat)(F1:Int->Option Int)(q1 p:Nat)(er:Int),KG [62,63,64] A M { M with cl:=c1,T:=T1,L:=L1,F:=F1,zq:=q1,s:=M.s+1 } w w'/\e=.returned (.tuple #[nV p,I er])/\p<=1023/\((er=7/\ic M.T A.ae.n o 11)\/er=0):=by
 obtain⟨c1,T1,L1,F1,q1,hk,h1|⟨p,h1,h2⟩⟩:=h
 .exact⟨c1,T1,L1,F1,q1,0,7,hk,h1.1,qf,.inl ⟨R,h1.2⟩⟩
 .exact⟨c1,T1,L1,F1,q1,p,0,hk,h2,by have:=hk.km.zn.bd.n2;omega,.inr R⟩
theorem zv{w0 w4 w5 w6:World}{js:List Nat}(hb:Below w w w0)(hk:KG js A M M1 w0 w4)(d:0∉js)(hz:M.cl w.heap.size=0)(hl:w.heap.size<w0.heap.size)(hb5:Below w4 w4 w5)(ho:Only w.heap.size w5 w6):KM A w6 M1/\KF [] M.cl M1.cl w w6:=by
 have hz1:M1.cl w.heap.size=0:=(hk.cl _ hl).trans hz;refine⟨(hk.km.below hb5).only ho hz1,(((KF.below [] M.cl hb).trans (hk.kf d)).trans (KF.below [] _ hb5)).jZ (X':= [w.heap.size]) ⟨ho.os,ho.tape,ho.output,XAs ho.size.symm,λ_ _ _ h=>h,λq hq hn _=>ho.block q qhb⟩ λq hq hlt=>?_⟩;simp at hq;omega
theorem Yf(h:KM A w M)(hs:M.s<=29000)(hi:M.cs[i]? =some x)(hk:k<A.C){t:Tk}(hQ:x.Q k=some t)(hw:t.aB=1):Z 108 #[(A.kb,0),I k,I i] w (Om A M i x t w):=by
 have CO:i<8:=XAH (lt_of_some hi) h.ok.cs;have hz0:M.cl w.heap.size=0:=h.new _ (XAB _);obtain⟨od,hod,Wn⟩:∃n:Nat,x.ly.ord=n/\n<=10:=⟨x.ly.ord.toNat,by have:=(h.cs.2 i x hi).od;omega,by have:=(h.cs.2 i x hi).od;omega⟩;have NI:=XAA hod;have Fc:Hid (x.ly.ord.toNat=od):=XAA qd;have BR:=ak.new w 210 aQ;have H0:=XAA (h.alloc (.cells aQ 210));have HB0:Hid (Below w w (w.alloc (.cells aQ 210))):=XAA ((XAC _ _).alloc (XAB _) _);have HI:=XAA hi;have HQ:=XAA hQ;have HW:=XAA hw;have hiw:IntKind.i64.wrap ((i:Int)+1)=((i+1:Nat):Int):=qfm
 have Nm:=XAA hiw;have hilt:=lt_of_some hi;clear h hi hQ hw hiw;dsimp only [aQ] at BR H0 HB0;go_enter func108,ntmps108;go_upto_region 1 with fail
 refine bg (λw0 hw0=>?_);rw [<-hw0] at BR H0 HB0;clear hw0;obtain⟨gc,cap,hcv,hcap,hci,-⟩:=H0.out.gK HI.out;have k27:w0.cell? (A.kb,27)=some (.slice (gc,0) M.cs.length cap):=H0.out.rd.k27.trans (XAK some hcv);have k25:=H0.out.rd.k25;have c11:=(H0.out.cw HI.out).c11;rw [hod] at c11;have a1:¬(i:Int)<0:=qd
 have a2:¬M.cs.length<=i:=XBU.2 hilt;have bP:=XAA (KG.refl [62,63,64,100+10*i+1,100+10*i+3,100+10*i+4,100+10*i+5] H0.out);have HD:=XAA H0.out.drew;have EJ:=XAA (XC HD.out (by show M.s<1000000;omega) hk od (i+1) Wn qd qd);rw [<-Nm.out] at EJ;clear hcv hod;go_wp2;go_region_held3 (λw'=>w'.cell? (A.kb,25)=some (.pointer (A.ae.zb,0))/\w'.cell? (x.cb,11)=I od) (exact⟨qm,qm⟩) (first|(go_at_call 148;refine EJ.out.mono ?_;rintro e w1 hal;obtain⟨c1,T1,L1,F1,q1,p,er,h1,rfl,hp,hcase⟩:=Pl hal;have aS:=XAA (bP.out.trans (KG.from_ (h1.more (cZ:= [62,63,64,100+10*i+1,100+10*i+3,100+10*i+4,100+10*i+5]) ql) (XAC _ _).drew));have WV:=aS.out.km.rd.k25;have c11':w1.cell? (x.cb,11)=I od:=(aS.out.km.cw HI.out).c11.trans (by rw [NI.out]);have HP:=XAA hp;have EN:=XAA hcase;clear h1 hal hcase));clear k25 c11 k27 hci WV c11';have c14:=(aS.out.km.cw HI.out).c14;go_upto_region 4 with(go_at_call 149;refine(XW aS.out.km qfl HI.out).mono ?_;rintro e w2 ⟨hb2,hcase2,hfr⟩;obtain⟨s,is,rfl,nN,hfs⟩:=Cm hcase2;have ri:=XAA hfr;have ET:=XAA hfs;have aW:=XAA (aS.out.eZ hb2);clear hb2 hcase2 hfr hfs c14)
 have c14:=(aW.out.km.cw HI.out).c14;have hca:=EN.out;clear EN;(rcases hca with⟨he,hnf⟩|he)<;>subst he<;>cases is
 .go_wp2_with (first|(go_at_call 150;refine(yX aW.out.km qfl HI.out hk HQ.out HW.out false).mono ?_;rintro e w4 ⟨t',r4,Q4,q4,rfl,h4,hex⟩;have br:=XAA (aW.out.trans (h4.more (cZ:= [62,63,64,100+10*i+1,100+10*i+3,100+10*i+4,100+10*i+5]) ql));have HEX:=XAA hex;clear h4 hex)|(refine bn R _ _ R R t' R (ak.new w4 210 aQ) R ?_;intro w5 bI jk;have hb5:Below w4 w4 w5:=aI ((XAC _ w4).alloc (XAB _) _) bI (XAB _);have gZ:=(br.out.md.blk BR qjx).below hb5;have bV:=XAA hb5;clear bI hb5)|(refine iC R _ R R t' jk ?_)|(refine bn rfl _ _ rfl rfl t' rfl gZ rfl ?_;intro w6 cD dZ));refine XAI (v:=aH t') (sC rfl _ _ qu (cn 210 dZ XAQ rfl (fC.trans rfl))) rfl ?_;obtain⟨e1,e2⟩:=zv HB0.out br.out ql hz0 BR.lt bV.out cD;exact⟨t',_,rfl,e1,e2,⟨rfl,rfl,rfl,qey,rfl,rfl,qho⟩,qgu,λhn _=>absurd hnf (by rw [Fc.out] at hn;exact hn)⟩
 .go_wp2_with (first|(go_at_call 150;refine(yX aW.out.km qfl HI.out hk HQ.out HW.out false).mono ?_;rintro e w4 ⟨t',r4,Q4,q4,rfl,h4,hex⟩;have br:=XAA (aW.out.trans (h4.more (cZ:= [62,63,64,100+10*i+1,100+10*i+3,100+10*i+4,100+10*i+5]) ql));have HEX:=XAA hex;clear h4 hex)|(refine bn R _ _ R R t' R (ak.new w4 210 aQ) R ?_;intro w5 bI jk;have hb5:Below w4 w4 w5:=aI ((XAC _ w4).alloc (XAB _) _) bI (XAB _);have gZ:=(br.out.md.blk BR qjx).below hb5;have bV:=XAA hb5;clear bI hb5)|(refine iC R _ R R t' jk ?_)|(refine bn rfl _ _ rfl rfl t' rfl gZ rfl ?_;intro w6 cD dZ));refine XAI (v:=aH t') (sC rfl _ _ qu (cn 210 dZ XAQ rfl (fC.trans rfl))) rfl ?_;obtain⟨e1,e2⟩:=zv HB0.out br.out ql hz0 BR.lt bV.out cD;exact⟨t',_,rfl,e1,e2,⟨rfl,rfl,rfl,qey,rfl,rfl,qho⟩,qgu,λhn _=>absurd hnf (by rw [Fc.out] at hn;exact hn)⟩
 .have c25:=aW.out.km.rd.k25;have hpp:=HP.out;go_wp2_with (go_at_call 91;refine(Dm aW.out.km hk (p:Int) (gY qd qd)).mono ?_;rintro e w3 ⟨r,c3,T3,L3,F3,rfl,h3⟩;have dS:=XAA (aW.out.trans (h3.more (cZ:= [62,63,64,100+10*i+1,100+10*i+3,100+10*i+4,100+10*i+5]) ql));clear h3 c14 c25;have c14:=(dS.out.km.cw HI.out).c14);go_wp2_with (first|(go_at_call 150;refine(yX dS.out.km qfl HI.out hk HQ.out HW.out false).mono ?_;rintro e w4 ⟨t',r4,Q4,q4,rfl,h4,hex⟩;have br:=XAA (dS.out.trans (h4.more (cZ:= [62,63,64,100+10*i+1,100+10*i+3,100+10*i+4,100+10*i+5]) ql));have HEX:=XAA hex;clear h4 hex)|(refine bn R _ _ R R t' R (ak.new w4 210 aQ) R ?_;intro w5 bI jk;have hb5:Below w4 w4 w5:=aI ((XAC _ w4).alloc (XAB _) _) bI (XAB _);have gZ:=(br.out.md.blk BR qjx).below hb5;have bV:=XAA hb5;clear bI hb5)|(refine iC R _ R R t' jk ?_)|(refine bn rfl _ _ rfl rfl t' rfl gZ rfl ?_;intro w6 cD dZ));refine XAI (v:=aH t') (sC rfl _ _ qu (cn 210 dZ XAQ rfl (fC.trans rfl))) rfl ?_;obtain⟨e1,e2⟩:=zv HB0.out br.out ql hz0 BR.lt bV.out cD;refine⟨t',_,rfl,e1,e2,⟨rfl,rfl,rfl,qey,rfl,rfl,qho⟩,qgu,λ_ hf=>?_⟩;have:=ri.out hf;simp at this
 .obtain⟨pp,-,hrow,-⟩:=aW.out.km.zt HI.out nN;have c6:=(aW.out.km.cw HI.out).c6;have hpg:=(aW.out.km.cs.2 i x HI.out).pg;have hlt:=hpg.lt;have hfz:=hpg.frz s;have g1:¬(s:Int)<0:=by omega
  have g2:¬32<=s:=qd;have hpp:=HP.out;have hpk:=aW.out.km.DL (i:=i) (x:=x) (s:=s) HI.out (v:=(p:Int)) qd;have dS:=XAA (aW.out.trans (hpk.more (cZ:= [62,63,64,100+10*i+1,100+10*i+3,100+10*i+4,100+10*i+5]) ql));have adw:=(dS.out.km.cw (i:=i) (x:= { x with P:=x.P.set s (p:Int) }) (BX HI.out)).c14;have HI3:=XAA (BX (y:= { x with P:=x.P.set s (p:Int) }) HI.out);clear hpk hpg;go_wp2_with (first|(go_at_call 150;refine(yX dS.out.km qfl HI3.out hk HQ.out HW.out true).mono ?_;rintro e w4 ⟨t',r4,Q4,q4,rfl,h4,hex⟩;have br:=XAA (dS.out.trans (h4.more (cZ:= [62,63,64,100+10*i+1,100+10*i+3,100+10*i+4,100+10*i+5]) ql));have HEX:=XAA hex;clear h4 hex)|(refine bn R _ _ R R t' R (ak.new w4 210 aQ) R ?_;intro w5 bI jk;have hb5:Below w4 w4 w5:=aI ((XAC _ w4).alloc (XAB _) _) bI (XAB _);have gZ:=(br.out.md.blk BR qjx).below hb5;have bV:=XAA hb5;clear bI hb5)|(refine iC R _ R R t' jk ?_)|(refine bn rfl _ _ rfl rfl t' rfl gZ rfl ?_;intro w6 cD dZ));refine XAI (v:=aH t') (sC rfl _ _ qu (cn 210 dZ XAQ rfl (fC.trans rfl))) rfl ?_;obtain⟨e1,e2⟩:=zv HB0.out br.out ql hz0 BR.lt bV.out cD;refine⟨t',_,rfl,e1,e2,⟨rfl,rfl,rfl,by show((M.cs.set i _).set i _).length=_;simp,rfl,rfl,qho⟩,qgu,λ_ hf=>?_⟩;have hs0:s=0:=by have:=ri.out hf;simp at this;exact this
  obtain⟨h5,h6⟩:=HEX.out hf;exact⟨h5,R,x.P.set s (p:Int),q4,by show(M.cs.set i _).set i _=_;rw [List.set_set,h6,<-h5];rfl⟩
def Oh(A:KA)(M:KS)(w:World)(e:Ending)(w':World):Prop:=
 ∃(t':Tk)(b:Bool)(M':KS),e=.returned (.tuple #[aH t',.bool b])/\KM A w' M'/\KF [] M.cl M'.cl w w'/\Sm M M'/\M'.s<=M.s+1
theorem Iv{w0 w4 w5 w6:World}{js:List Nat}(hb:Below w w w0)(hk:KG js A M M1 w0 w4)(d:0∉js)(hz:M.cl w.heap.size=0)(hz1:M.cl (w.heap.size+1)=0)(hl:w.heap.size+1<w0.heap.size)(ho:Only w.heap.size w4 w5)(ho':Only (w.heap.size+1) w5 w6):KM A w6 M1/\KF [] M.cl M1.cl w w6:=by
 have e0:M1.cl w.heap.size=0:=(hk.cl _ qd).trans hz;have e1:M1.cl (w.heap.size+1)=0:=(hk.cl _ hl).trans hz1;refine⟨(hk.km.only ho e0).only ho' e1,(((KF.below [] M.cl hb).trans (hk.kf d)).jZ (X':= [w.heap.size]) ⟨ho.os,ho.tape,ho.output,XAs ho.size.symm,λ_ _ _ h=>h,λq hq hn _=>ho.block q qhb⟩ λq hq hlt=>?_).jZ (X':= [w.heap.size+1]) ⟨ho'.os,ho'.tape,ho'.output,XAs ho'.size.symm,λ_ _ _ h=>h,λq hq hn _=>ho'.block q qhb⟩ λq hq hlt=>?_⟩<;>(simp at hq;omega)
theorem XX(h:KM A w M)(hs:M.s<=29000)(hi:M.cs[i]? =some x)(hk:k<A.C){t:Tk}(hQ:x.Q k=some t)(hw:t.aB=2):Z 109 #[(A.kb,0),I k,I i,aH t] w (Oh A M w):=by
 have CO:i<8:=XAH (lt_of_some hi) h.ok.cs;have hz0:M.cl w.heap.size=0:=h.new _ (XAB _);have hz1':M.cl (w.heap.size+1)=0:=h.new _ (XAU _);obtain⟨hT,-,-⟩:=(h.cs.2 i x hi).cr.has (h.aj hi hk) hQ;obtain⟨s0,Lr⟩:=hT.at_ (.inl hw);obtain⟨ar,aj,pc,az,aB,ai,aq,H,T,F,K,N,au,ay,too,aw,fr⟩:=t;dsimp only at hw s0 Lr;obtain⟨s,hsl⟩:∃s:Nat,ai=s:=⟨ai.toNat,qd⟩;subst hw hsl;have nN:s<32:=qd
 have HC:=XAA h;have HI:=XAA hi;have HQ:=XAA hQ;have hilt:=lt_of_some hi;clear h hi hQ hT s0 Lr;go_enter func109,ntmps109;go_upto_region 1 with fail
 refine bg (λw0 hw0=>?_);have B7:Hid (ak w0 w.heap.size 210 (bD ⟨ar,aj,pc,az,2,s,aq,H,T,F,K,N,au,ay,too,aw,fr⟩)):=XAA (by rw [hw0];exact(ak.new w 210 (bD ⟨ar,aj,pc,az,2,s,aq,H,T,F,K,N,au,ay,too,aw,fr⟩)).alloc _);have B8:Hid (ak w0 (w.heap.size+1) 210 aQ):=XAA (by
  rw [hw0]
  have:=ak.new (w.alloc (.cells (bD ⟨ar,aj,pc,az,2,s,aq,H,T,F,K,N,au,ay,too,aw,fr⟩) 210)) 210 aQ
  simp only [XAT] at this
  exact this)
 have H0:Hid (KM A w0 M):=XAA (by rw [hw0];exact(HC.out.alloc _).alloc _);have HB0:Hid (Below w w w0):=XAA (by rw [hw0];exact((XAC _ _).alloc (XAB _) _).alloc ql _);clear hw0 HC;obtain⟨gc,cap,hcv,hcap,hci,hgl⟩:=H0.out.gK HI.out;have k27:w0.cell? (A.kb,27)=some (.slice (gc,0) M.cs.length cap):=H0.out.rd.k27.trans (XAK some hcv);have a1:¬(i:Int)<0:=qd
 have a2:¬M.cs.length<=i:=XBU.2 hilt;have g1:¬(s:Int)<0:=qd
 have g2:¬32<=s:=qd;have hxc:=H0.out.cw HI.out;have c6:=hxc.c6;have xlt:=hxc.lt;obtain⟨pp,-,hrow,hp1,hp2⟩:=H0.out.zt HI.out nN;have hlt:=(H0.out.cs.2 i _ HI.out).pg.lt;have y5:w0.cell? (w.heap.size,5)=I s:=B7.out.cell 5;have b6:=B7.out.lt;clear hcv hxc;go_wp2;(refine ba (w0.heap.size) (λhxc aA hxh hxn=>?_);(repeat (first|go_big_quiet_step (fail)|quiet_step (fail)));refine XAG ?_;clear hxc aA hxh hxn;intro w1 hb1 hz1 hc1 hf1);have aS:=XAA ((KG.refl [6,7,62,63,64,100+10*i,100+10*i+1,100+10*i+3,100+10*i+4,100+10*i+5] H0.out).eZ hb1);clear hc1 hf1 hb1 hz1 c6 y5 hrow k27 hci hlt xlt b6 hgl;have c2:=(aS.out.km.cw HI.out).c2;have k25:=aS.out.km.rd.k25;have k26:=aS.out.km.rd.k26;rcases (by cases(bits .and .i64 x.sp.f 1==0)<;>simp:(bits .and .i64 x.sp.f 1==0)=true\/(bits .and .i64 x.sp.f 1==0)=false) with hfl|hfl
 .go_wp2_with (go_at_call 91;refine(Dm aS.out.km hk pp (gY qd qd)).mono ?_;rintro e w4 ⟨r4,c4,T4,L4,F4,rfl,h4⟩;have br:=XAA (aS.out.trans (h4.more (cZ:= [6,7,62,63,64,100+10*i,100+10*i+1,100+10*i+3,100+10*i+4,100+10*i+5]) ql));clear h4);obtain⟨p2,-,hrow2,-⟩:=br.out.km.zt HI.out nN;have c6:=(br.out.km.cw HI.out).c6;have acW:=(br.out.km.cw HI.out).lt;have hlt:=(br.out.km.cs.2 i _ HI.out).pg.lt;have hfz:=(br.out.km.cs.2 i _ HI.out).pg.frz s;have b7:=br.out.md.blk B7.out qhk;have y5:w4.cell? (w.heap.size,5)=I s:=b7.cell 5;have PU:=b7.lt;clear b7;(refine bN 8 (w4.heap.size) ?_;intro hxc aA hxh hxn;simp only [List.take,List.drop];(repeat (first|go_big_quiet_step (fail)|quiet_step (fail)));refine XAG ?_;clear hxc aA hxh hxn;intro w1 hb1 hz1 hc1 hf1);have hpk:=(br.out.km.below hb1).DL (i:=i) (s:=s) HI.out (v:=(-1:Int)) qd;have bm:=XAA ((br.out.eZ hb1).trans (hpk.more (cZ:= [6,7,62,63,64,100+10*i,100+10*i+1,100+10*i+3,100+10*i+4,100+10*i+5]) ql));have iX:=XAA (Kg (y:= { x with P:=(x:Cc).P.set s (-1) }) HI.out);clear hb1 c6 y5 hpk;go_upto_region 9 with fail
  refine bg (λw5 hw5=>?_);rw [<-hw5] at bm;have c14:=(bm.out.km.cw iX.out).c14;clear hw5 hfz hc1 hf1 hz1 hrow2;go_wp2_with (first|(go_at_call 152;refine(J2 bm.out.km (by show M.s<=30000;omega) iX.out hk HQ.out R).mono ?_;rintro e w6 ⟨t',r6,Q6,q6,rfl,h6⟩;have cG:=XAA (bm.out.trans (h6.more (cZ:= [6,7,62,63,64,100+10*i,100+10*i+1,100+10*i+3,100+10*i+4,100+10*i+5]) ql));have gE:=cG.out.md.blk B7.out qhk;have dZ:=cG.out.md.blk B8.out qkk;clear h6)|(refine bn R _ _ R R t' R gE R ?_;intro w7 eU Dx;have Du:=dZ.only eU qd)|(refine iC R _ R R t' Dx ?_)|(refine bn R _ _ R R t' R Du R ?_;intro w8 aC Dv));refine XAI (v:=.tuple #[aH t',.bool true]) (dc R _ _ qu qu (cn 210 Dv XAQ R (fC.trans R))) R ?_;obtain⟨e1,e2⟩:=Iv HB0.out cG.out qj hz0 hz1' B8.out.lt eU aC;exact⟨t',true,_,R,e1,e2,⟨R,R,R,ql,R,R,by show M.s<=M.s+1;omega⟩,by show M.s+1<=M.s+1;omega⟩
 .have Js:(16*pp+(i:Int)) % 16<M.cs.length:=by omega
  have HZ:=XAA Js;clear Js;have x5:=(aS.out.km.cw HI.out).c5;go_wp2_with (first|(go_at_call 151;refine(XO aS.out.km qd hk (16*pp+(i:Int)) HZ.out).mono ?_;rintro e w2 ⟨r2,c2',rfl,h2⟩;have aW:=XAA (aS.out.trans (h2.more (cZ:= [6,7,62,63,64,100+10*i,100+10*i+1,100+10*i+3,100+10*i+4,100+10*i+5]) ql));have x5:=(aW.out.km.cw HI.out).c5;have uF:=(aW.out.km.cw HI.out).frz 5;have xlt:=(aW.out.km.cw HI.out).lt;have bt:=aW.out.md.blk B7.out qhk;have mN:=aW.out.md.blk B8.out qkk;clear h2;(rcases (by cases(r2 !=0)<;>simp:(r2 !=0)=true\/(r2 !=0)=false) with hr|hr))|(refine iC R _ R R ⟨ar,aj,pc,az,2,s,aq,H,T,F,K,N,au,ay,too,aw,fr⟩ bt ?_)|(refine bn R _ _ R R ⟨ar,aj,pc,az,2,s,aq,H,T,F,K,N,au,ay,too,aw,fr⟩ R mN R ?_;intro w3 ho3 pE))
  .refine XAI (v:=.tuple #[aH ⟨ar,aj,pc,az,2,s,aq,H,T,F,K,N,au,ay,too,aw,fr⟩,.bool false]) (dc R _ _ qu qu (cn 210 pE XAQ R (fC.trans R))) R ?_;have e1:=(aW.out.cl _ B8.out.lt).trans hz1';exact⟨_,false,_,R,aW.out.km.only ho3 e1,((KF.below [] M.cl HB0.out).trans (aW.out.kf qj)).jZ (X':= [w.heap.size+1]) ⟨ho3.os,ho3.tape,ho3.output,XAs ho3.size.symm,λ_ _ _ h=>h,λq hq hn _=>ho3.block q qhb⟩ (λq hq hlt=>qka),⟨R,R,R,R,R,R,XAB _⟩,XAU _⟩
  refine bg (λw4 hw4=>?_);have hpw:=aW.out.km.KV (i:=i) (x:=x) HI.out (wrap64 (x.waits+1));have br:=aW.out.trans (hpw.more (cZ:= [6,7,62,63,64,100+10*i,100+10*i+1,100+10*i+3,100+10*i+4,100+10*i+5]) ql);rw [<-hw4] at br;have HI4:=XAA (BX (y:= { x with waits:=wrap64 (x.waits+1) }) HI.out);replace br:=XAA br;clear hw4 x5 uF xlt hpw bt mN;obtain⟨p2,-,hrow2,-⟩:=br.out.km.zt HI4.out nN;have c6:=(br.out.km.cw HI4.out).c6;have acW:=(br.out.km.cw HI4.out).lt;have hlt:=(br.out.km.cs.2 i _ HI4.out).pg.lt;have hfz:=(br.out.km.cs.2 i _ HI4.out).pg.frz s;have b7:=br.out.md.blk B7.out qhk;have y5:w4.cell? (w.heap.size,5)=I s:=b7.cell 5;have PU:=b7.lt;clear b7;(refine bN 8 (w4.heap.size) ?_;intro hxc aA hxh hxn;simp only [List.take,List.drop];(repeat (first|go_big_quiet_step (fail)|quiet_step (fail)));refine XAG ?_;clear hxc aA hxh hxn;intro w1 hb1 hz1 hc1 hf1);have hpk:=(br.out.km.below hb1).DL (i:=i) (s:=s) HI4.out (v:=(-1:Int)) qd;have bm:=XAA ((br.out.eZ hb1).trans (hpk.more (cZ:= [6,7,62,63,64,100+10*i,100+10*i+1,100+10*i+3,100+10*i+4,100+10*i+5]) ql));have iX:=XAA (Kg (y:= {({ x with waits:=wrap64 (x.waits+1) } :Cc) with P:=(({ x with waits:=wrap64 (x.waits+1) } :Cc):Cc).P.set s (-1) }) HI4.out);clear hb1 c6 y5 hpk;go_upto_region 9 with fail
  refine bg (λw5 hw5=>?_);rw [<-hw5] at bm;have c14:=(bm.out.km.cw iX.out).c14;clear hw5 hfz hc1 hf1 hz1 hrow2;go_wp2_with (first|(go_at_call 152;refine(J2 bm.out.km (by show M.s<=30000;omega) iX.out hk HQ.out R).mono ?_;rintro e w6 ⟨t',r6,Q6,q6,rfl,h6⟩;have cG:=XAA (bm.out.trans (h6.more (cZ:= [6,7,62,63,64,100+10*i,100+10*i+1,100+10*i+3,100+10*i+4,100+10*i+5]) ql));have gE:=cG.out.md.blk B7.out qhk;have dZ:=cG.out.md.blk B8.out qkk;clear h6)|(refine bn R _ _ R R t' R gE R ?_;intro w7 eU Dx;have Du:=dZ.only eU qd)|(refine iC R _ R R t' Dx ?_)|(refine bn R _ _ R R t' R Du R ?_;intro w8 aC Dv));refine XAI (v:=.tuple #[aH t',.bool true]) (dc R _ _ qu qu (cn 210 Dv XAQ R (fC.trans R))) R ?_;obtain⟨e1,e2⟩:=Iv HB0.out cG.out qj hz0 hz1' B8.out.lt eU aC;exact⟨t',true,_,R,e1,e2,⟨R,R,R,ql,R,R,by show M.s<=M.s+1;omega⟩,by show M.s+1<=M.s+1;omega⟩
end
section
variable{A:KA}{M M1 M2:KS}{w w' w2:World}{i k:Nat}{x:Cc}{y:Hn}
structure uJ(A:KA)(M M':KS)(k i:Nat)(x:Cc)(a c:Int)(r:List Ac):Prop where
 no:x.Q k=none->M'.fr=M.fr/\M'.hs=M.hs/\M'.T=M.T/\M'.gr=M.gr/\∃Q q,M'.cs=M.cs.set i (x.upd x.ws x.n Q q)/\(a=1->Q=cU x.Q k (some { aO with ar:=1,aj:=k }))/\(a=2->0<=c->c<=100000->0<=eK x.ch (c / 16) (c % 16)->Q=cU x.Q k (some { aO with ar:=2,aj:=k,pc:=10,ai:=c / 16,aq:=c % 16 }))
 st:∀t,x.Q k=some t->t.aB=0->M'.hs=M.hs/\M'.T=M.T/\M'.gr=M.gr/\∃t' ws n q,m6 x.ch t x.ws x.n t' ws n/\M'.cs=M.cs.set i (x.upd ws n (fW x.Q t') q)/\(t'.az=0->M'.fr=M.fr)/\(t'.az=1->∃av,M'.fr k= { M.fr k with av:=av,acts:=r,ai:=t'.ai,aq:=t'.aq })
 pg:∀t,x.Q k=some t->t.aB=1->¬ic M.T A.ae.n x.ly.ord.toNat 11->oq x.ch x.ws x.Q->M'.fr=M.fr/\M'.hs=M.hs/\M'.gr=M.gr/\∃P q,M'.cs=M.cs.set i { x.upd x.ws x.n (fW x.Q (eA t true 0)) q with P:=P }
def A7(A:KA)(M:KS)(k i:Nat)(x:Cc)(a c:Int)(r:List Ac)(w:World)(e:Ending)(w':World):Prop:=
 e=.returned (.tuple #[])/\∃M',KM A w' M'/\KF [] M.cl M'.cl w w'/\Ax M M' k/\M'.s<=M.s+5/\uJ A M M' k i x a c r
theorem Ax.same(h:Sm M M1):Ax M M1 k:=⟨λj _=>by rw [h.fr],by rw [h.fr],by rw [h.fr],h.ds,h.s⟩
structure CrR(A:KA)(M:KS)(i:Nat)(x:Cc)(p:Nat)(K a c:Int)(gc cap:Nat)(w:World):Prop where
 k27:w.cell? (A.kb,27)=some (.slice (gc,0) M.cs.length cap)
 hci:w.cell? (gc,i)=some (jo x)
 c14:w.cell? (x.cb,14)=some (.pointer (x.wb,0))
 y1:w.cell? (p,1)=I a
 y2:w.cell? (p,2)=some (nV i)
 y3:w.cell? (p,3)=I c
theorem XS(h:KM A w M)(hs:M.s<=28000)(hk:k<A.C)(K a c:Int)(hi:M.cs[i]? =some x)(r:List Ac)(hQ:x.Q k=none):Z 74 #[(A.kb,0),I k,.pointer (A.fb,k*12),.agg (bG K a i c)] w (A7 A M k i x a c r w):=by
 have hz0:M.cl w.heap.size=0:=h.new _ (XAB _);have hilt:=lt_of_some hi;have BR:=ak.new w 173 (bG K a i c);have H0:=XAA (h.alloc (.cells (bG K a i c) 173));have HB0:Hid (Below w w (w.alloc (.cells (bG K a i c) 173))):=XAA ((XAC _ _).alloc (XAB _) _);have HI:=XAA hi;have HQ:=XAA hQ;clear h hi hQ;go_enter func74,ntmps74;go_upto_region 1 with fail
 refine bg (λw0 hw0=>?_);rw [<-hw0] at BR H0 HB0;clear hw0;obtain⟨gc,cap,hcv,hcap,hci,hgl⟩:=H0.out.gK HI.out;have k27:w0.cell? (A.kb,27)=some (.slice (gc,0) M.cs.length cap):=H0.out.rd.k27.trans (XAK some hcv);have a8:=H0.out.rd.lt;have c14:=(H0.out.cw HI.out).c14;have xlt:=(H0.out.cw HI.out).lt;have b6:=BR.lt;have y2:w0.cell? (w.heap.size,2)=some (nV i):=BR.cell 2;have a1:¬(i:Int)<0:=qd
 have a2:¬M.cs.length<=i:=XBU.2 hilt;have iF:=XAA BR;clear hcv BR;(refine ba (w0.heap.size) (λhxc aA hxh hxn=>?_);(repeat (first|go_big_quiet_step (fail)|quiet_step (fail)));refine XAG ?_;clear hxc aA hxh hxn;intro w1 hb1 hz1 hc1 hf1);have aS:=XAA (H0.out.below hb1);have AA:=XAA (iF.out.below hb1);have HB1:=XAA (HB0.out.trans (hb1.mono HB0.out.size));clear hc1 hf1 hb1 k27 c14 y2 hci;have htk:=XAA (J6 aS.out HI.out hk);rw [HQ.out] at htk;go_wp2_with (first|(go_at_call 106;refine(htk.out).mono ?_;rintro e w2 ⟨rfl,hb2⟩;have aW:=XAA (aS.out.below hb2);have uL:=XAA (AA.out.below hb2);have HB2:=XAA (HB1.out.trans (hb2.mono HB1.out.size));clear hb2)|(refine bn rfl _ _ rfl rfl aO rfl (ak.new w2 210 aQ) rfl ?_;intro w3 ho3 aT;have hb3:Below w2 w2 w3:=(aI ((XAC _ w2).alloc (XAB _) _) ho3 (XAB _));have dS:=XAA (aW.out.below hb3);have j_:=XAA (uL.out.below hb3);have HB3:=XAA (HB2.out.trans (hb3.mono HB2.out.size));have y3:w3.cell? (w.heap.size,3)=I c:=j_.out.cell 3;have adN:=j_.out.lt;clear ho3 hb3 aT));rename World=>wb;(refine ba (wb.heap.size) (λhxc aA hxh hxn=>?_);(repeat (first|go_big_quiet_step (fail)|quiet_step (fail)));refine XAG ?_;clear hxc aA hxh hxn;intro w1 hb1 hz1 hc1 hf1);obtain⟨sl,hsl⟩:=Xq (wrap64 (c.tdiv 16));obtain⟨ob,hob⟩:=Xq (c.tmod 16);rw [hsl,hob];have HSL:Hid (0<=c->c<=100000->sl=c / 16/\ob=c % 16):=XAA λh0 h1=>by rw [<-hsl,<-hob,Int.tdiv_eq_ediv_of_nonneg h0,XCT h0];exact⟨XBZ _ qd,R⟩
 have br:=XAA (dS.out.below hb1);have HB4:=XAA (HB3.out.trans (hb1.mono HB3.out.size));have AB:=j_.out.below hb1;have y1:w1.cell? (w.heap.size,1)=I a:=AB.cell 1;have Mm:w1.cell? (w.heap.size,3)=I c:=AB.cell 3;clear hc1 hf1 hb1 y3 hsl hob AB;rcases (by cases(a==3)<;>simp:(a==3)=true\/(a==3)=false) with ha|ha
 all_goals
  go_wp2_with (go_at_call 107;refine(XG br.out qd HI.out hk HQ.out a _ _).mono ?_;rintro e w5 ⟨r5,Q5,q5,rfl,h5,hj1,hj2⟩;have H5:=XAA h5;have Nn:=XAA hj1;have HJ2:=XAA hj2;clear h5 hj1 hj2);(first|go_end0|refine Xe ?_);refine⟨rfl,_,H5.out.km,(KF.below [] M.cl HB4.out).trans (H5.out.kf ql),⟨λ_ _=>rfl,R,R,R,XAU _⟩,by show M.s+1<=M.s+5;omega,⟨λ_=>⟨R,R,R,R,Q5,q5,R,Nn.out,λh2 h0 h1 hl=>?_⟩,λt ht=>(by rw [HQ.out] at ht;cases ht),λt ht=>(by rw [HQ.out] at ht;cases ht)⟩⟩
 .simp at ha;omega
 .obtain⟨e1,e2⟩:=HSL.out h0 h1;rw [<-e1,<-e2] at hl ⊢;exact HJ2.out h2 hl
structure dR(A:KA)(M M3:KS)(i:Nat)(x:Cc)(t t':Tk):Prop where
 st:t.aB=0->M3.T=M.T/\M3.gr=M.gr/\∃ws n q,m6 x.ch t x.ws x.n t' ws n/\M3.cs=M.cs.set i (x.upd ws n (fW x.Q t') q)
 pg:t.aB=1->¬ic M.T A.ae.n x.ly.ord.toNat 11->oq x.ch x.ws x.Q->t'=eA t true 0/\t'.az=0/\M3.gr=M.gr/\∃P q,M3.cs=M.cs.set i { x.upd x.ws x.n (fW x.Q t') q with P:=P }
theorem dR.same{t t':Tk}{M3:KS}{a c:Int}{r:List Ac}(hQ:x.Q k=some t)(h:dR A M M3 i x t t')(hs:Sm M M3)(hf:t'.az=0):uJ A M M3 k i x a c r:=by
 refine⟨λe=>?_,λu hu hw=>?_,λu hu hw h1 h2=>?_⟩
 .rw [hQ] at e;cases e
 .rw [hQ] at hu;injection hu with hu;subst hu
  obtain⟨h1,h2,ws,n,q,h3,h4⟩:=h.st hw;exact⟨hs.hs,h1,h2,t',ws,n,q,h3,h4,λ_=>hs.fr,λe=>absurd (hf.symm.trans e) qf⟩
 .rw [hQ] at hu;injection hu with hu;subst hu
  obtain⟨h3,-,h4,P,q,h5⟩:=h.pg hw h1 h2;exact⟨hs.fr,hs.hs,h4,P,q,by rw [h5,h3]⟩
theorem dR.fail{t t':Tk}{M3 M7:KS}{a c:Int}{r:List Ac}(hQ:x.Q k=some t)(h:dR A M M3 i x t t')(hf:t'.az≠0)(hf1:t'.az≠1)(hs:Sm M M3)(e:M7.hs=M3.hs/\M7.T=M3.T/\M7.gr=M3.gr/\M7.cs=M3.cs):uJ A M M7 k i x a c r:=by
 obtain⟨e1,e2,e3,e4⟩:=e;refine⟨λe=>?_,λu hu hw=>?_,λu hu hw h1 h2=>?_⟩
 .rw [hQ] at e;cases e
 .rw [hQ] at hu;injection hu with hu;subst hu
  obtain⟨h1,h2,ws,n,q,h3,h4⟩:=h.st hw;exact⟨e1.trans hs.hs,e2.trans h1,e3.trans h2,t',ws,n,q,h3,e4.trans h4,λe=>absurd e hf,λe=>absurd e hf1⟩
 .rw [hQ] at hu;injection hu with hu;subst hu
  exact absurd (h.pg hw h1 h2).2.1 hf
theorem dR.done{t t':Tk}{M3 M7:KS}{a c:Int}{r:List Ac}(hQ:x.Q k=some t)(h:dR A M M3 i x t t')(hf:t'.az≠0)(hs:Sm M M3)(e:M7.hs=M3.hs/\M7.T=M3.T/\M7.gr=M3.gr/\M7.cs=M3.cs)(ef:∃av,M7.fr k= { M.fr k with av:=av,acts:=r,ai:=t'.ai,aq:=t'.aq }):uJ A M M7 k i x a c r:=by
 obtain⟨e1,e2,e3,e4⟩:=e;refine⟨λe=>?_,λu hu hw=>?_,λu hu hw h1 h2=>?_⟩
 .rw [hQ] at e;cases e
 .rw [hQ] at hu;injection hu with hu;subst hu
  obtain⟨h1,h2,ws,n,q,h3,h4⟩:=h.st hw;exact⟨e1.trans hs.hs,e2.trans h1,e3.trans h2,t',ws,n,q,h3,e4.trans h4,λe=>absurd e hf,λ_=>ef⟩
 .rw [hQ] at hu;injection hu with hu;subst hu
  exact absurd (h.pg hw h1 h2).2.1 hf
theorem GW{M4:KS}{w4 w5:World}{p:Nat}(hk:KM A w4 M4)(hf:KF [] M.cl M4.cl w w4)(h0:M4.cl p=0)(hp:w.heap.size<=p)(ho:Only p w4 w5):KM A w5 M4/\KF [] M.cl M4.cl w w5:=
 ⟨hk.only ho h0,hf.jZ (X':= [p]) ⟨ho.os,ho.tape,ho.output,XAs ho.size.symm,λ_ _ _ h=>h,λq _ hq _=>ho.block q qin⟩ λq hq hlt=>qka⟩
theorem XR(h:KM A w M)(hs:M.s<=28000)(hk:k<A.C)(K a c:Int)(hi:M.cs[i]? =some x)(r:List Ac)(hA:(M.fr k).acts=⟨173,K,a,i,c⟩::r){t:Tk}(hQ:x.Q k=some t):Z 74 #[(A.kb,0),I k,.pointer (A.fb,k*12),.agg (bG K a i c)] w (A7 A M k i x a c r w):=by
 have hz0:M.cl w.heap.size=0:=h.new _ (XAB _);have hilt:=lt_of_some hi;have BR:=ak.new w 173 (bG K a i c);have H0:=XAA (h.alloc (.cells (bG K a i c) 173));have HB0:Hid (Below w w (w.alloc (.cells (bG K a i c) 173))):=XAA ((XAC _ _).alloc (XAB _) _);have HI:=XAA hi;have HQ:=XAA hQ;have IE:=(h.cs.2 i x hi).cr.has (h.aj hi hk) hQ;have HT:=XAA IE;have HA:=XAA hA;have HN:=XAA h.new;clear h hi hQ hA IE;go_enter func74,ntmps74;go_upto_region 1 with fail
 refine bg (λw0 hw0=>?_);rw [<-hw0] at BR H0 HB0;clear hw0;obtain⟨gc,cap,hcv,hcap,hci,hgl⟩:=H0.out.gK HI.out;have k27:w0.cell? (A.kb,27)=some (.slice (gc,0) M.cs.length cap):=H0.out.rd.k27.trans (XAK some hcv);have a8:=H0.out.rd.lt;have c14:=(H0.out.cw HI.out).c14;have xlt:=(H0.out.cw HI.out).lt;have b6:=BR.lt;have y2:w0.cell? (w.heap.size,2)=some (nV i):=BR.cell 2;have a1:¬(i:Int)<0:=qd
 have a2:¬M.cs.length<=i:=XBU.2 hilt;have iF:=XAA BR;clear hcv BR;(refine ba (w0.heap.size) (λhxc aA hxh hxn=>?_);(repeat (first|go_big_quiet_step (fail)|quiet_step (fail)));refine XAG ?_;clear hxc aA hxh hxn;intro w1 hb1 hz1 hc1 hf1);have aS:=XAA (H0.out.below hb1);have AA:=XAA (iF.out.below hb1);have HB1:=XAA (HB0.out.trans (hb1.mono HB0.out.size));clear hc1 hf1 hb1 k27 c14 y2 hci;have htk:=XAA (J6 aS.out HI.out hk);rw [HQ.out] at htk;go_upto_region 8 with(first|(go_at_call 106;refine(htk.out).mono ?_;rintro e w2 ⟨rfl,hb2⟩;have aW:=XAA (aS.out.below hb2);have uL:=XAA (AA.out.below hb2);have HB2:=XAA (HB1.out.trans (hb2.mono HB1.out.size));clear hb2)|(refine bn R _ _ R R t R (ak.new w2 210 aQ) R ?_;intro w3 ho3 aT;have hb3:Below w2 w2 w3:=(aI ((XAC _ w2).alloc (XAB _) _) ho3 (XAB _));have dS:=XAA (aW.out.below hb3);have j_:=XAA (uL.out.below hb3);have HB3:=XAA (HB2.out.trans (hb3.mono HB2.out.size));have gH:=XAA aT;clear ho3 hb3 aT))
 have hp1:w.heap.size<=w2.heap.size:=HB2.out.size;have hzp:M.cl w2.heap.size=0:=HN.out _ hp1;have hne:w.heap.size≠w2.heap.size:=by have:=uL.out.lt;omega
 obtain⟨p1,hpp⟩:=Xq w2.heap.size;rw [hpp] at hp1 hzp hne gH ⊢;clear hpp uL HB2;have z4:w3.cell? (p1,4)=I t.aB:=gH.out.cell 4;have HF3:Hid (KF [] M.cl M.cl w w3):=XAA (KF.below [] M.cl HB3.out);rcases HT.out.1.aB with hw|hw|hw
 .rw [hw] at z4;have HW:=XAA hw;clear hw;go_upto_region 16 with(first|(go_at_call 110;refine(Yn dS.out qd HI.out hk HQ.out HW.out).mono ?_;rintro e w4 ⟨t',ws',n',q',rfl,h4,-,hex⟩;have dN:=h4.md.blk gH.out (by rw [hzp];simp);have br:=XAA h4.km;have p_:=XAA (HF3.out.trans (h4.kf ql));have lu:Hid (Sm M { M with cs:=M.cs.set i (x.upd ws' n' (fW x.Q t') q'),s:=M.s+1 }):=XAA ⟨rfl,rfl,rfl,ql,rfl,rfl,XAU _⟩;have ru:Hid (KS.s { M with cs:=M.cs.set i (x.upd ws' n' (fW x.Q t') q'),s:=M.s+1 } <=M.s+3):=XAA (by show M.s+1<=M.s+3;omega);have mg:Hid (dR A M { M with cs:=M.cs.set i (x.upd ws' n' (fW x.Q t') q'),s:=M.s+1 } i x t t'):=XAA ⟨λ_=>⟨R,R,ws',n',q',hex,R⟩,λh=>absurd (HW.out.symm.trans h) qf⟩;have tp:=XAA (h4.md.blk j_.out qjx);have oJ:=XAA ((h4.cl _ gH.out.lt).trans hzp);have tj:=XAA ((h4.cl _ j_.out.lt).trans hz0);clear h4 hex)|(refine bn R _ _ R R t' R dN R ?_;intro w5 bI jk))
  obtain⟨M3,H3,F3,S3,Z3,X3,KT,KW⟩:∃M3,Hid (KM A w5 M3)/\Hid (KF [] M.cl M3.cl w w5)/\Hid (Sm M M3)/\Hid (M3.s<=M.s+3)/\Hid (dR A M M3 i x t t')/\Hid (ak w5 p1 210 (bD t')/\M3.cl p1=0)/\Hid (ak w5 w.heap.size 173 (bG K a i c)/\M3.cl w.heap.size=0):=qba;clear jk bI br p_ lu ru mg tp oJ tj;have kf:=KT.out.1.cell 3;have z3:w5.cell? (p1,3)=I t'.az:=kf;clear kf;rcases (by cases(t'.az==0)<;>simp:(t'.az==0)=true\/(t'.az==0)=false) with hf0|hf0
  .have dD:=XAA hf0;go_wp2;(first|go_end0|refine Xe ?_);have hf:t'.az=0:=by simpa using dD.out
   exact⟨R,M3,H3.out,F3.out,Ax.same S3.out,by have:=Z3.out;omega,dR.same HQ.out X3.out S3.out hf⟩
  .have tX:(M3.fr k).acts=⟨173,K,a,i,c⟩::r:=by rw [S3.out.fr];exact HA.out
   obtain⟨g,off,cap,hav,hcap,-,hg,hcl,hrow⟩:=H3.out.kE hk tX;obtain⟨cL,cj,-,-,-,f3,-⟩:=H3.out.dt hk;rw [hav] at f3;obtain⟨m,hm⟩:=Xq r.length;rw [hm] at f3 hcap hav;have mC:=cj (k*12+3);have z1:w5.cell? (w.heap.size,1)=I a:=KW.out.1.cell 1;go_upto_region 19 with(refine sP qu _ qu g off m cap qu hcap ?_;intro off' iq)
   refine bg (λw6 hw6=>?_);obtain⟨M6,H6,F6,Y6,E6⟩:∃M6,Hid (KM A w6 M6)/\Hid (KF [] M3.cl M6.cl w5 w6)/\Hid (Ay M3 M6 k r)/\Hid (∃av,M6=M3.wf k { M3.fr k with av:=av,acts:=r }):=qz;have gE:=(F6.out.keep KT.out.1 KT.out.2 ql).1;have pG:=(F6.out.keep KW.out.1 KW.out.2 ql).1;have y3:w6.cell? (p1,3)=I t'.az:=gE.cell 3;have y5:w6.cell? (p1,5)=I t'.ai:=gE.cell 5;have y6:w6.cell? (p1,6)=I t'.aq:=gE.cell 6;have y1:w6.cell? (w.heap.size,1)=I a:=pG.cell 1;have hs6:M6.s<=30000:=qhf
   have dD:=XAA hf0;clear hw6 gE pG hav hcap hg hcl hrow iq f3 cj mC cL z1 z3;rcases (by cases(t'.az==3)<;>simp:(t'.az==3)=true\/(t'.az==3)=false) with hf3|hf3
   .have HF3:=XAA hf3;have lo:=XAA (λ(W:World) (hW:KM A W M6)=>sh hW hs6 hk 150 [] none 0 0 R ⟨R,.inl ⟨R,R⟩⟩ (λg hg=>qce) (λa ha=>qdh) qf);go_wp2_with (go_at_call 103;refine(lo.out _ H6.out).mono ?_;rintro e w7 ⟨rfl,c7,f7,h7,k7,n7,b7⟩;have H7:=XAA h7;have K7:=XAA k7;clear h7 k7);(first|go_end0|refine Xe ?_);exact⟨rfl,_,H7.out,(F3.out.trans F6.out).trans K7.out,((Ax.same S3.out).trans Y6.out.ax).trans ⟨λj hj=>cP hj,qbw,qbv,R,XAU _⟩,qca,dR.fail HQ.out X3.out qcn qcv S3.out qt⟩
   .rcases (by cases(a==1)<;>simp:(a==1)=true\/(a==1)=false) with ha1|ha1
    .rcases (by cases(t'.az==2)<;>simp:(t'.az==2)=true\/(t'.az==2)=false) with hf2|hf2
     .have HF3:=XAA hf2;have lo:=XAA (λ(W:World) (hW:KM A W M6)=>sh hW hs6 hk 7 [] none 0 0 R ⟨R,.inl ⟨R,R⟩⟩ (λg hg=>qce) (λa ha=>qdh) qf);go_wp2_with (go_at_call 103;refine(lo.out _ H6.out).mono ?_;rintro e w7 ⟨rfl,c7,f7,h7,k7,n7,b7⟩;have H7:=XAA h7;have K7:=XAA k7;clear h7 k7);(first|go_end0|refine Xe ?_);exact⟨rfl,_,H7.out,(F3.out.trans F6.out).trans K7.out,((Ax.same S3.out).trans Y6.out.ax).trans ⟨λj hj=>cP hj,qbw,qbv,R,XAU _⟩,qca,dR.fail HQ.out X3.out qcn qcv S3.out qt⟩
     .have a_:=H6.out.gm k;obtain⟨b6,cX,-,-,-,-,p4,p5,-⟩:=a_.ga hk;have wL:=cX (k*12+4);have lS:=cX (k*12+5);clear a_ cX;go_wp2;go_region;(first|go_end0|refine Xe ?_);have h7:=(H6.out.gm k).tE hk t'.ai;have h8:=h7.km.tD hk t'.aq;refine⟨rfl,_,h8.km.drew,((F3.out.trans F6.out).trans ((h7.trans h8).kf qf)).trans (KF.below [] _ (XAC _ _).drew),((Ax.same S3.out).trans Y6.out.ax).trans ⟨λj hj=>cP hj,qy,qx,R,XAB _⟩,qci,dR.done HQ.out X3.out qcn S3.out qt ?_⟩;obtain⟨av,e6⟩:=E6.out;refine⟨av,?_⟩;show aL _ k _ k=_;rw [b_,e6,wf_at,S3.out.fr]
    .have a_:=H6.out.gm k;obtain⟨b6,cX,-,-,-,-,p4,p5,-⟩:=a_.ga hk;have wL:=cX (k*12+4);have lS:=cX (k*12+5);clear a_ cX;go_wp2;go_region;(first|go_end0|refine Xe ?_);have h7:=(H6.out.gm k).tE hk t'.ai;have h8:=h7.km.tD hk t'.aq;refine⟨rfl,_,h8.km.drew,((F3.out.trans F6.out).trans ((h7.trans h8).kf qf)).trans (KF.below [] _ (XAC _ _).drew),((Ax.same S3.out).trans Y6.out.ax).trans ⟨λj hj=>cP hj,qy,qx,R,XAB _⟩,qci,dR.done HQ.out X3.out qcn S3.out qt ?_⟩;obtain⟨av,e6⟩:=E6.out;refine⟨av,?_⟩;show aL _ k _ k=_;rw [b_,e6,wf_at,S3.out.fr]
 .rw [hw] at z4;have HW:=XAA hw;clear hw;have y2:w3.cell? (w.heap.size,2)=some (nV i):=j_.out.cell 2;go_upto_region 16 with(first|(go_at_call 108;refine(Yf dS.out qd HI.out hk HQ.out HW.out).mono ?_;rintro e w4 ⟨t',M4,rfl,h4,k4,s4,uG,x4⟩;have dN:=(k4.keep gH.out hzp ql).1;have br:=XAA h4;have p_:=XAA (HF3.out.trans k4);have lu:=XAA s4;have ru:=XAA uG;have mg:Hid (dR A M M4 i x t t'):=XAA ⟨λh=>absurd (HW.out.symm.trans h) qf,λ_ h1 h2=>⟨(x4 h1 h2).1,(by rw [(x4 h1 h2).1];exact HT.out.2.1),(x4 h1 h2).2⟩⟩;have tp:=XAA (k4.keep j_.out hz0 ql).1;have oJ:=XAA (k4.keep gH.out hzp ql).2;have tj:=XAA (k4.keep j_.out hz0 ql).2;clear h4 k4 s4 uG x4)|(refine bn R _ _ R R t' R dN R ?_;intro w5 bI jk))
  obtain⟨M3,H3,F3,S3,Z3,X3,KT,KW⟩:∃M3,Hid (KM A w5 M3)/\Hid (KF [] M.cl M3.cl w w5)/\Hid (Sm M M3)/\Hid (M3.s<=M.s+3)/\Hid (dR A M M3 i x t t')/\Hid (ak w5 p1 210 (bD t')/\M3.cl p1=0)/\Hid (ak w5 w.heap.size 173 (bG K a i c)/\M3.cl w.heap.size=0):=qba;clear jk bI br p_ lu ru mg tp oJ tj;have kf:=KT.out.1.cell 3;have z3:w5.cell? (p1,3)=I t'.az:=kf;clear kf;rcases (by cases(t'.az==0)<;>simp:(t'.az==0)=true\/(t'.az==0)=false) with hf0|hf0
  .have dD:=XAA hf0;go_wp2;(first|go_end0|refine Xe ?_);have hf:t'.az=0:=by simpa using dD.out
   exact⟨R,M3,H3.out,F3.out,Ax.same S3.out,by have:=Z3.out;omega,dR.same HQ.out X3.out S3.out hf⟩
  .have tX:(M3.fr k).acts=⟨173,K,a,i,c⟩::r:=by rw [S3.out.fr];exact HA.out
   obtain⟨g,off,cap,hav,hcap,-,hg,hcl,hrow⟩:=H3.out.kE hk tX;obtain⟨cL,cj,-,-,-,f3,-⟩:=H3.out.dt hk;rw [hav] at f3;obtain⟨m,hm⟩:=Xq r.length;rw [hm] at f3 hcap hav;have mC:=cj (k*12+3);have z1:w5.cell? (w.heap.size,1)=I a:=KW.out.1.cell 1;go_upto_region 19 with(refine sP qu _ qu g off m cap qu hcap ?_;intro off' iq)
   refine bg (λw6 hw6=>?_);obtain⟨M6,H6,F6,Y6,E6⟩:∃M6,Hid (KM A w6 M6)/\Hid (KF [] M3.cl M6.cl w5 w6)/\Hid (Ay M3 M6 k r)/\Hid (∃av,M6=M3.wf k { M3.fr k with av:=av,acts:=r }):=qz;have gE:=(F6.out.keep KT.out.1 KT.out.2 ql).1;have pG:=(F6.out.keep KW.out.1 KW.out.2 ql).1;have y3:w6.cell? (p1,3)=I t'.az:=gE.cell 3;have y5:w6.cell? (p1,5)=I t'.ai:=gE.cell 5;have y6:w6.cell? (p1,6)=I t'.aq:=gE.cell 6;have y1:w6.cell? (w.heap.size,1)=I a:=pG.cell 1;have hs6:M6.s<=30000:=qhf
   have dD:=XAA hf0;clear hw6 gE pG hav hcap hg hcl hrow iq f3 cj mC cL z1 z3;rcases (by cases(t'.az==3)<;>simp:(t'.az==3)=true\/(t'.az==3)=false) with hf3|hf3
   .have HF3:=XAA hf3;have lo:=XAA (λ(W:World) (hW:KM A W M6)=>sh hW hs6 hk 150 [] none 0 0 R ⟨R,.inl ⟨R,R⟩⟩ (λg hg=>qce) (λa ha=>qdh) qf);go_wp2_with (go_at_call 103;refine(lo.out _ H6.out).mono ?_;rintro e w7 ⟨rfl,c7,f7,h7,k7,n7,b7⟩;have H7:=XAA h7;have K7:=XAA k7;clear h7 k7);(first|go_end0|refine Xe ?_);exact⟨rfl,_,H7.out,(F3.out.trans F6.out).trans K7.out,((Ax.same S3.out).trans Y6.out.ax).trans ⟨λj hj=>cP hj,qbw,qbv,R,XAU _⟩,qca,dR.fail HQ.out X3.out qcn qcv S3.out qt⟩
   .rcases (by cases(a==1)<;>simp:(a==1)=true\/(a==1)=false) with ha1|ha1
    .rcases (by cases(t'.az==2)<;>simp:(t'.az==2)=true\/(t'.az==2)=false) with hf2|hf2
     .have HF3:=XAA hf2;have lo:=XAA (λ(W:World) (hW:KM A W M6)=>sh hW hs6 hk 7 [] none 0 0 R ⟨R,.inl ⟨R,R⟩⟩ (λg hg=>qce) (λa ha=>qdh) qf);go_wp2_with (go_at_call 103;refine(lo.out _ H6.out).mono ?_;rintro e w7 ⟨rfl,c7,f7,h7,k7,n7,b7⟩;have H7:=XAA h7;have K7:=XAA k7;clear h7 k7);(first|go_end0|refine Xe ?_);exact⟨rfl,_,H7.out,(F3.out.trans F6.out).trans K7.out,((Ax.same S3.out).trans Y6.out.ax).trans ⟨λj hj=>cP hj,qbw,qbv,R,XAU _⟩,qca,dR.fail HQ.out X3.out qcn qcv S3.out qt⟩
     .have a_:=H6.out.gm k;obtain⟨b6,cX,-,-,-,-,p4,p5,-⟩:=a_.ga hk;have wL:=cX (k*12+4);have lS:=cX (k*12+5);clear a_ cX;go_wp2;go_region;(first|go_end0|refine Xe ?_);have h7:=(H6.out.gm k).tE hk t'.ai;have h8:=h7.km.tD hk t'.aq;refine⟨rfl,_,h8.km.drew,((F3.out.trans F6.out).trans ((h7.trans h8).kf qf)).trans (KF.below [] _ (XAC _ _).drew),((Ax.same S3.out).trans Y6.out.ax).trans ⟨λj hj=>cP hj,qy,qx,R,XAB _⟩,qci,dR.done HQ.out X3.out qcn S3.out qt ?_⟩;obtain⟨av,e6⟩:=E6.out;refine⟨av,?_⟩;show aL _ k _ k=_;rw [b_,e6,wf_at,S3.out.fr]
    .have a_:=H6.out.gm k;obtain⟨b6,cX,-,-,-,-,p4,p5,-⟩:=a_.ga hk;have wL:=cX (k*12+4);have lS:=cX (k*12+5);clear a_ cX;go_wp2;go_region;(first|go_end0|refine Xe ?_);have h7:=(H6.out.gm k).tE hk t'.ai;have h8:=h7.km.tD hk t'.aq;refine⟨rfl,_,h8.km.drew,((F3.out.trans F6.out).trans ((h7.trans h8).kf qf)).trans (KF.below [] _ (XAC _ _).drew),((Ax.same S3.out).trans Y6.out.ax).trans ⟨λj hj=>cP hj,qy,qx,R,XAB _⟩,qci,dR.done HQ.out X3.out qcn S3.out qt ?_⟩;obtain⟨av,e6⟩:=E6.out;refine⟨av,?_⟩;show aL _ k _ k=_;rw [b_,e6,wf_at,S3.out.fr]
 .rw [hw] at z4;have HW:=XAA hw;clear hw;have y2:w3.cell? (w.heap.size,2)=some (nV i):=j_.out.cell 2;go_upto_region 16 with(first|(go_at_call 109;refine(XX dS.out qd HI.out hk HQ.out HW.out).mono ?_;rintro e w4 ⟨t',b,M4,rfl,h4,k4,s4,uG⟩;have dN:=(k4.keep gH.out hzp ql).1;have br:=XAA h4;have p_:=XAA (HF3.out.trans k4);have lu:=XAA s4;have ru:Hid (M4.s<=M.s+3):=XAA qd;have mg:Hid (dR A M M4 i x t t'):=XAA ⟨λh=>absurd (HW.out.symm.trans h) qf,λh=>absurd (HW.out.symm.trans h) qf⟩;have tp:=XAA (k4.keep j_.out hz0 ql).1;have oJ:=XAA (k4.keep gH.out hzp ql).2;have tj:=XAA (k4.keep j_.out hz0 ql).2;clear h4 k4 s4 uG;cases b)|(refine iC R _ R R t gH.out ?_)|(refine bn R _ _ R R t' R dN R ?_;intro w5 bI jk))
  ·(first|go_end0|refine Xe ?_);obtain⟨e1,e2⟩:=GW br.out p_.out oJ.out hp1 bI;exact⟨rfl,M4,e1,e2,Ax.same lu.out,by have:=ru.out;omega,⟨λe=>(by rw [HQ.out] at e;cases e),λu hu hu0=>qcy,λu hu hu0=>qcy⟩⟩
  obtain⟨M3,H3,F3,S3,Z3,X3,KT,KW⟩:∃M3,Hid (KM A w5 M3)/\Hid (KF [] M.cl M3.cl w w5)/\Hid (Sm M M3)/\Hid (M3.s<=M.s+3)/\Hid (dR A M M3 i x t t')/\Hid (ak w5 p1 210 (bD t')/\M3.cl p1=0)/\Hid (ak w5 w.heap.size 173 (bG K a i c)/\M3.cl w.heap.size=0):=qba;clear jk bI br p_ lu ru mg tp oJ tj;have kf:=KT.out.1.cell 3;have z3:w5.cell? (p1,3)=I t'.az:=kf;clear kf;rcases (by cases(t'.az==0)<;>simp:(t'.az==0)=true\/(t'.az==0)=false) with hf0|hf0
  .have dD:=XAA hf0;go_wp2;(first|go_end0|refine Xe ?_);have hf:t'.az=0:=by simpa using dD.out
   exact⟨R,M3,H3.out,F3.out,Ax.same S3.out,by have:=Z3.out;omega,dR.same HQ.out X3.out S3.out hf⟩
  .have tX:(M3.fr k).acts=⟨173,K,a,i,c⟩::r:=by rw [S3.out.fr];exact HA.out
   obtain⟨g,off,cap,hav,hcap,-,hg,hcl,hrow⟩:=H3.out.kE hk tX;obtain⟨cL,cj,-,-,-,f3,-⟩:=H3.out.dt hk;rw [hav] at f3;obtain⟨m,hm⟩:=Xq r.length;rw [hm] at f3 hcap hav;have mC:=cj (k*12+3);have z1:w5.cell? (w.heap.size,1)=I a:=KW.out.1.cell 1;go_upto_region 19 with(refine sP qu _ qu g off m cap qu hcap ?_;intro off' iq)
   refine bg (λw6 hw6=>?_);obtain⟨M6,H6,F6,Y6,E6⟩:∃M6,Hid (KM A w6 M6)/\Hid (KF [] M3.cl M6.cl w5 w6)/\Hid (Ay M3 M6 k r)/\Hid (∃av,M6=M3.wf k { M3.fr k with av:=av,acts:=r }):=qz;have gE:=(F6.out.keep KT.out.1 KT.out.2 ql).1;have pG:=(F6.out.keep KW.out.1 KW.out.2 ql).1;have y3:w6.cell? (p1,3)=I t'.az:=gE.cell 3;have y5:w6.cell? (p1,5)=I t'.ai:=gE.cell 5;have y6:w6.cell? (p1,6)=I t'.aq:=gE.cell 6;have y1:w6.cell? (w.heap.size,1)=I a:=pG.cell 1;have hs6:M6.s<=30000:=qhf
   have dD:=XAA hf0;clear hw6 gE pG hav hcap hg hcl hrow iq f3 cj mC cL z1 z3;rcases (by cases(t'.az==3)<;>simp:(t'.az==3)=true\/(t'.az==3)=false) with hf3|hf3
   .have HF3:=XAA hf3;have lo:=XAA (λ(W:World) (hW:KM A W M6)=>sh hW hs6 hk 150 [] none 0 0 R ⟨R,.inl ⟨R,R⟩⟩ (λg hg=>qce) (λa ha=>qdh) qf);go_wp2_with (go_at_call 103;refine(lo.out _ H6.out).mono ?_;rintro e w7 ⟨rfl,c7,f7,h7,k7,n7,b7⟩;have H7:=XAA h7;have K7:=XAA k7;clear h7 k7);(first|go_end0|refine Xe ?_);exact⟨rfl,_,H7.out,(F3.out.trans F6.out).trans K7.out,((Ax.same S3.out).trans Y6.out.ax).trans ⟨λj hj=>cP hj,qbw,qbv,R,XAU _⟩,qca,dR.fail HQ.out X3.out qcn qcv S3.out qt⟩
   .rcases (by cases(a==1)<;>simp:(a==1)=true\/(a==1)=false) with ha1|ha1
    .rcases (by cases(t'.az==2)<;>simp:(t'.az==2)=true\/(t'.az==2)=false) with hf2|hf2
     .have HF3:=XAA hf2;have lo:=XAA (λ(W:World) (hW:KM A W M6)=>sh hW hs6 hk 7 [] none 0 0 R ⟨R,.inl ⟨R,R⟩⟩ (λg hg=>qce) (λa ha=>qdh) qf);go_wp2_with (go_at_call 103;refine(lo.out _ H6.out).mono ?_;rintro e w7 ⟨rfl,c7,f7,h7,k7,n7,b7⟩;have H7:=XAA h7;have K7:=XAA k7;clear h7 k7);(first|go_end0|refine Xe ?_);exact⟨rfl,_,H7.out,(F3.out.trans F6.out).trans K7.out,((Ax.same S3.out).trans Y6.out.ax).trans ⟨λj hj=>cP hj,qbw,qbv,R,XAU _⟩,qca,dR.fail HQ.out X3.out qcn qcv S3.out qt⟩
     .have a_:=H6.out.gm k;obtain⟨b6,cX,-,-,-,-,p4,p5,-⟩:=a_.ga hk;have wL:=cX (k*12+4);have lS:=cX (k*12+5);clear a_ cX;go_wp2;go_region;(first|go_end0|refine Xe ?_);have h7:=(H6.out.gm k).tE hk t'.ai;have h8:=h7.km.tD hk t'.aq;refine⟨rfl,_,h8.km.drew,((F3.out.trans F6.out).trans ((h7.trans h8).kf qf)).trans (KF.below [] _ (XAC _ _).drew),((Ax.same S3.out).trans Y6.out.ax).trans ⟨λj hj=>cP hj,qy,qx,R,XAB _⟩,qci,dR.done HQ.out X3.out qcn S3.out qt ?_⟩;obtain⟨av,e6⟩:=E6.out;refine⟨av,?_⟩;show aL _ k _ k=_;rw [b_,e6,wf_at,S3.out.fr]
    .have a_:=H6.out.gm k;obtain⟨b6,cX,-,-,-,-,p4,p5,-⟩:=a_.ga hk;have wL:=cX (k*12+4);have lS:=cX (k*12+5);clear a_ cX;go_wp2;go_region;(first|go_end0|refine Xe ?_);have h7:=(H6.out.gm k).tE hk t'.ai;have h8:=h7.km.tD hk t'.aq;refine⟨rfl,_,h8.km.drew,((F3.out.trans F6.out).trans ((h7.trans h8).kf qf)).trans (KF.below [] _ (XAC _ _).drew),((Ax.same S3.out).trans Y6.out.ax).trans ⟨λj hj=>cP hj,qy,qx,R,XAB _⟩,qci,dR.done HQ.out X3.out qcn S3.out qt ?_⟩;obtain⟨av,e6⟩:=E6.out;refine⟨av,?_⟩;show aL _ k _ k=_;rw [b_,e6,wf_at,S3.out.fr]
end
section
variable{A:KA}{M M1 M2:KS}{w w' w2 w3 w5:World}{i k g cap n:Nat}{x:Cc}{y:Hn}
structure Hd1(A:KA)(M:KS)(k:Nat)(w:World)(v1:Value)(w5:World):Prop where
 md:Md M.cl [10,40+k] w w5
 own:w5.ownsRow 0 3 1 v1 ((M.fr k).hs.length+1) ((M.fr k).hs.map nV++ [nV M.hs.length])
 q1:∀g,v1.ownBlock=some g->(M.fr k).hv.ownBlock=some g\/w.heap.size<=g
 row:aG w5 A.fb 159 (bM A.C λj=>bf (aL M.fr k { M.fr k with hv:=v1,hs:=(M.fr k).hs++ [M.hs.length] } j))
theorem KM.hand1(h:KM A w M)(hk:k<A.C){o:Obj}(en:(M.fr k).hs.length=n)(ho3:w3.ownsRow 0 3 1 (.slice (g,0) (n+1) cap) (n+1) ((M.fr k).hs.map nV++ [nV M.hs.length]))(hg:(w.alloc o).drew.grownBy w3 (M.fr k).hv.ownBlock)(hq:some g=(M.fr k).hv.ownBlock\/g=(w.alloc o).drew.heap.size):
  Hd1 A M k w (.slice (g,0) (n+1) cap) (w3.setCell (A.fb,k*12+10) (.slice (g,0) (n+1) cap)):=by
 subst en;have hfa:=(h.fa k hk).2;have hm:Md M.cl [10,40+k] w w3:=((Md.refl M.cl [10,40+k] w).alloc o).drew.grown hg λg' hg' _=>by rw [(hfa.2 g' hg').2];simp
 have hm2:=hm.set (g:=A.fb) (λ_=>by rw [h.fr.2];simp) (k*12+10) (.slice (g,0) ((M.fr k).hs.length+1) cap);have hlt:=cO ho3 (g:=g) rfl;have V6:w3.heap[A.fb]? =w.heap[A.fb]? :=(hg.block A.fb (by show A.fb<(w.alloc o).heap.size;have:=h.fr.1.lt;simp;omega) λe=>by have:=(hfa.2 _ e.symm).2;rw [h.fr.2] at this;omega).trans (XAX w _ _ h.fr.1.lt);have I7:g≠A.fb:=λe=>by
  rcases hq with e1|e1
  .have:=(hfa.2 g e1.symm).2;rw [e,h.fr.2] at this;omega
  .have h1:=h.fr.1.lt;have e2:g=(w.alloc o).heap.size:=e1;simp at e2;omega
 refine⟨hm2,cM ho3 λg' hg'=>XAN w3 _ _ g' qeu,λg' hg'=>?_,?_⟩
 .have e:g=g':=by simpa [Value.ownBlock] using hg'
  subst e;rcases hq with e1|e1
  .exact .inl e1.symm
  .have e2:g=(w.alloc o).heap.size:=e1;simp at e2;exact .inr qd
 .rw [<-Cy hk 10 qf (.slice (g,0) ((M.fr k).hs.length+1) cap) rfl];exact aG.set (h.fr.1.heap V6) _ _
theorem KM.hand2(h:KM A w M)(hk:k<A.C){v1:Value}(H:Hd1 A M k w v1 w5)(y:Hn)(hy:y.ca<M.cs.length)(hn:M.hs.length+1<=30*M.s)(hn2:(M.fr k).hs.length+1<=30*M.s){o:Obj}(en:M.hs.length=n)
 (ho3:w3.ownsRow 0 68 5 (.slice (g,0) (n+1) cap) (n+1) (M.hs.flatMap cB++cB y))(hg:(w5.alloc o).drew.grownBy w3 M.hv.ownBlock)(hq:some g=M.hv.ownBlock\/g=(w5.alloc o).drew.heap.size):
  ∃c2,KM A (w3.setCell (A.kb,28) (.slice (g,0) (n+1) cap)) { M with cl:=c2,hv:=.slice (g,0) (n+1) cap,hs:=M.hs++ [y],fr:=aL M.fr k { M.fr k with hv:=v1,hs:=(M.fr k).hs++ [M.hs.length] } } /\KF [] M.cl c2 w (w3.setCell (A.kb,28) (.slice (g,0) (n+1) cap)):=by
 subst en;have im:Own M.cl 9 w 68 5 M.hv M.hs.length (M.hs.flatMap cB):=h.hs;have hsz:=H.md.size;have hm:Md M.cl [1,9,10,40+k] w w3:=((H.md.more (cZ:= [1,9,10,40+k]) ql).alloc o).drew.grown hg λg' hg' _=>by rw [(im.2 g' hg').2];simp
 have hm2:=hm.set (g:=A.kb) (λ_=>by rw [h.k.2];simp) 28 (.slice (g,0) (M.hs.length+1) cap);have far:∀q,q<w5.heap.size->M.hv.ownBlock≠some q->w3.heap[q]? =w5.heap[q]? :=λq hl hne=>(hg.block q (by show q<(w5.alloc o).heap.size;simp;omega) λe=>hne e.symm).trans (XAX w5 _ _ hl);have hnk:∀{q:Nat},M.cl q≠9->M.hv.ownBlock≠some q:=λhc e=>hc (im.2 _ e).2;have hkl:=h.k.1.lt;have hk3:ak w3 A.kb 58 (kR A M):=(far A.kb qd (hnk (by rw [h.k.2];decide))).trans (H.md.blk h.k.1 (by rw [h.k.2];simp;omega));have hkb:=hk3.aJ 28 (.slice (g,0) (M.hs.length+1) cap);have hgk:g≠A.kb:=λe=>own_ne ho3 hk3 qf qjp;have hfl:=h.fr.1.lt;have h1:∀q,v1.ownBlock=some q->q<w5.heap.size/\M.hv.ownBlock≠some q:=λq hq'=>⟨cO H.own hq',λe=>by
  rcases H.q1 q hq' with e1|e1
  .have:=((h.fa k hk).2.2 q e1).2;have h2:=(im.2 q e).2;have:=h.ok.c8;omega
  .have:=(im.2 q e).1;omega⟩
 have Wy:∀q,v1.ownBlock=some q->q≠A.kb:=λq hq' e=>own_ne H.own (H.md.blk h.k.1 (by rw [h.k.2];simp;omega)) qf (by rw [hq',e]);refine h.hand hk y hy hn hn2 (v1:=v1) (v2:=.slice (some ⟨g,0,none⟩) (M.hs.length+1) cap) hm2 hkb (cM H.own λq hq'=>(XAN w3 _ _ q (Wy q hq')).trans (far q (h1 q hq').1 (h1 q hq').2)) (cM ho3 λg' hg'=>XAN w3 _ _ g' qex) H.q1 (λg' hg'=>?_) (λq e1 e2=>?_) ?_
 .have e:g=g':=by simpa [Value.ownBlock] using hg'
  subst e;rcases hq with e1|e1
  .exact .inl e1.symm
  .have e2:g=(w5.alloc o).heap.size:=e1;simp at e2;exact .inr qd
 .have e:g=q:=by simpa [Value.ownBlock] using e2
  subst e;rcases hq with e3|e3
  .exact(h1 g e1).2 e3.symm
  .have e4:g=(w5.alloc o).heap.size:=e3;simp at e4;have:=(h1 g e1).1;omega
 .exact H.row.heap ((XAN w3 _ _ A.fb (λe=>by have:=h.k.2;rw [<-(show A.fb=A.kb from e),h.fr.2] at this;cases this)).trans (far A.fb qd (hnk (by rw [h.fr.2];decide))))
theorem ab3{n:Nat}(h:n<=16):aY (n:Int):=pX.2 qd
theorem IZ{n:Nat}{G:Nat->Gp} :∀{P:List Nat},(∀x∈P,x<=16)->kO n G P<=16
 | [],_=>XAJ _
 |x::P,h=>by
  unfold kO;split
  .exact h x (XA1 ..)
  .exact IZ λy hy=>h y (XBC _ hy)
structure Pd(M M':KS)(k s:Nat):Prop where
 hs:M'.hs=M.hs
 cs:M'.cs=M.cs
 T:M'.T=M.T
 gr:M'.gr=M.gr
 ds:M'.ds=M.ds
 s:M'.s=s
 fr:∀j,j≠k->M'.fr j=M.fr j
 nx:(M'.fr k).next=(M.fr k).next
 bu:(M'.fr k).busy=(M.fr k).busy
 ac:(M'.fr k).acts=(M.fr k).acts
 el:(M'.fr k).hs=(M.fr k).hs
 e:(M'.fr k).e=(M.fr k).e
def Ol(A:KA)(M:KS)(k i:Nat)(b:Int)(w:World)(e:Ending)(w':World):Prop:=
 e=.returned (.tuple #[])/\∃M',KM A w' M'/\KF [] M.cl M'.cl w w'/\Ax M M' k/\M'.s<=M.s+2/\
  (b=0->M'.cs=M.cs/\M'.T=M.T/\M'.gr=M.gr/\M'.hs=M.hs++ [⟨i,(M.fr k).ai,(M.fr k).aq,0,true⟩]/\(M'.fr k).acts=(M.fr k).acts/\(M'.fr k).hs=(M.fr k).hs++ [M.hs.length]/\(M'.fr k).e=(M.fr k).e)
theorem JB:(prog.info? 68).map (λi=>(i.zero,i.size,i.bytes))=some (some (.agg #[I 0,I 0,I 0,I 0,.bool false]),5,40):=qh
theorem Ye(h:KM A w M)(hs:M.s<=29000)(hk:k<A.C)(K b c:Int)(hi:M.cs[i]? =some x):Z 75 #[(A.kb,0),.pointer (A.fb,k*12),.agg (bG K i b c)] w (Ol A M k i b w):=by
 have hz0:M.cl w.heap.size=0:=h.new _ (XAB _);have yT:M.cl (w.heap.size+1)=0:=h.new _ (XAU _);have hilt:=lt_of_some hi;obtain⟨cL,cj,-,-,-,-,f4,f5,-⟩:=h.dt hk;have HC:=XAA h;have HI:=XAA hi;clear h hi;go_enter func75,ntmps75;go_wp2;go_region;obtain⟨w0,hw0⟩:=Xq (((w.alloc (.cells (bG K i b c) 176)).alloc (.cells #[I i,I (M.fr k).ai,I (M.fr k).aq,I 0,.bool true] 68)).drew);have H0:Hid (KM A w0 M):=XAA (by rw [<-hw0];exact((HC.out.alloc _).alloc _).drew);have HB0:Hid (Below w w w0):=XAA (by rw [<-hw0];exact(((XAC _ _).alloc (XAB _) _).alloc ql _).drew);have HD:Hid (ak w0 w.heap.size 176 (bG K i b c)):=XAA (by rw [<-hw0];exact(ak.new w 176 (bG K i b c)).alloc _);have HB:Hid (ak w0 (w.heap.size+1) 68 #[I i,I (M.fr k).ai,I (M.fr k).aq,I 0,.bool true]/\w.heap.size+1<w0.heap.size):=XAA (by
  have hb:=ak.new (w.alloc (.cells (bG K i b c) 176)) 68 #[I i,I (M.fr k).ai,I (M.fr k).aq,I 0,.bool true]
  simp only [XAT] at hb
  have hb2:ak w0 (w.heap.size+1) 68 #[I i,I (M.fr k).ai,I (M.fr k).aq,I 0,.bool true]:=by rw [<-hw0];exact hb
  exact⟨hb2,hb2.lt⟩)
 rw [hw0];clear hw0 cL cj f4 f5;have bP:Hid (KG [1,3,5] A { M with s:=M.s+1 } { M with s:=M.s+1 } w0 w0):=XAA (KG.refl [1,3,5] (H0.out.more qd));have dD:Hid (KF [] M.cl M.cl w w0):=XAA (KF.below [] M.cl HB0.out);have y2:w0.cell? (w.heap.size,2)=I b:=HD.out.cell 2;by_cases hb:0<b
 .obtain⟨gc,cap,hcv,hcap,hci,hgl⟩:=H0.out.gK HI.out;have k27:w0.cell? (A.kb,27)=some (.slice (gc,0) M.cs.length cap):=H0.out.rd.k27.trans (XAK some hcv);have c9:=(H0.out.cw HI.out).c9;have xlt:=(H0.out.cw HI.out).lt;have a8:=H0.out.rd.lt;have y1:w0.cell? (w.heap.size,1)=I i:=HD.out.cell 1;have b6:=HD.out.lt;have a1:¬(i:Int)<0:=by omega
  have a2:¬M.cs.length<=i:=XBU.2 hilt;clear hcv;go_wp2;(refine ba (w0.heap.size) (λhxc aA hxh hxn=>?_);(repeat (first|go_big_quiet_step (fail)|quiet_step (fail)));refine XAG ?_;clear hxc aA hxh hxn;intro w1 hb1 hz1 hc1 hf1);rename World=>wa;have aS:=XAA (bP.out.eZ hb1);clear hc1 hf1 hb1 k27 c9 xlt a8 y1 y2 a1 a2 hci hgl;obtain⟨hr,kP⟩:=Xq (kO M.tn M.G (c_ M.G (cf M.tn b)));have Wq:hr<=16:=by rw [<-kP];exact IZ λx hx=>by have:=wP HC.out.tr.ok b x hx;have:=HC.out.tr.ok.n2;omega
  have HS:Hid (∀s:Ext wa,Z 111 #[(A.tb,0),I b] s.w λe w'=>e=.returned (nV hr)/\Below s.w.heap.size s.w w'):=XAA λs=>by rw [<-kP];exact Ab s.w (aS.out.km.tr.below s.below) b
  have k4:=aS.out.km.rd.k4;have a8:=aS.out.km.rd.lt;have hd1:=aS.out.md.blk HD.out qbz;have y2:wa.cell? (w.heap.size,2)=I b:=hd1.cell 2;have b6:=hd1.lt;have hh1:=aS.out.md.blk HB.out.1 qch;have gv:=hh1.lt;have z3:wa.cell? (w.heap.size+1,3)=I 0:=hh1.cell 3;have zfz:=hh1.frozen 3;clear hd1 hh1 kP;go_wp2;(refine bN 9 (wa.heap.size) ?_;intro hxc aA hxh hxn;simp only [List.take,List.drop];(repeat (first|go_big_quiet_step ((go_at_call 111;exact dy (HS.out _)))|quiet_step ((go_at_call 111;exact dy (HS.out _)))));refine XAG ?_;clear hxc aA hxh hxn;intro w1 hb1 hz1 hc1 hf1);have hh1:=(aS.out.md.blk HB.out.1 qch).below hb1;have hb2:=hh1.aJ 3 (nV hr);have hd2:=((aS.out.md.blk HD.out qbz).below hb1).far (p:=⟨w.heap.size+1,3,none⟩) qdy (nV hr);have hk2:=((aS.out.eZ hb1).km).far (p:=⟨w.heap.size+1,3,none⟩) yT (nV hr);have hf2:KF [] M.cl M.cl w (w1.setCell (w.heap.size+1,3) (nV hr)):=((dD.out.trans (aS.out.kf qf)).trans (KF.below [] _ hb1)).jZ (X':= [w.heap.size+1]) ⟨rfl,rfl,rfl,qbt,λ_ _ _ h=>h,λq _ hq _=>XAN w1 _ _ q qin⟩ λq hq hlt=>qka;go_upto_region 5 with fail
  refine bg (λw2 hw2=>?_);rw [<-hw2] at hb2 hd2 hk2 hf2;have HB2:Hid (ak w2 (w.heap.size+1) 68 #[I i,I (M.fr k).ai,I (M.fr k).aq,nV hr,.bool true]/\w.heap.size+1<w2.heap.size):=XAA ⟨hb2,hb2.lt⟩;have HD2:=XAA hd2;have HF2:=XAA hf2;have aW:Hid (KG [1,3,5] A { M with s:=M.s+1 } { M with s:=M.s+1 } w2 w2):=XAA (KG.refl [1,3,5] hk2);clear hw2 hb2 hd2 hk2 hf2 hc1 hf1 hb1 hh1 z3 zfz gv b6 a8 k4 y2;have WZ:w2.cell? (A.kb,7)=some (.pointer (A.ob,0)):=aW.out.km.rd.k7;have An:w2.cell? (w.heap.size,1)=I i:=(aW.out.md.blk HD2.out qbz).cell 1;have S2:w2.cell? (A.fb,k*12+4)=I (M.fr k).ai:=(aW.out.km.dt hk).f4;have S8:w2.cell? (A.fb,k*12+5)=I (M.fr k).aq:=(aW.out.km.dt hk).f5;have adg:w2.cell? (w.heap.size+1,3)=some (nV hr):=(aW.out.md.blk HB2.out.1 qch).cell 3;have MZ:=XAA aW.out.km.drew;go_wp2;go_region_held3 (λw'=>w'.cell? (A.kb,7)=some (.pointer (A.ob,0))/\w'.cell? (w.heap.size,1)=I i/\w'.cell? (A.fb,k*12+4)=I (M.fr k).ai/\w'.cell? (A.fb,k*12+5)=I (M.fr k).aq/\w'.cell? (w.heap.size+1,3)=some (nV hr)) (exact⟨qm,qm,qm,qm,qm⟩) (first|(go_at_call 112;refine(Ym MZ.out (by show M.s+1<100000;omega) _ _ (hr:Int) (ab3 Wq)).mono ?_;rintro e w3 ⟨r3,rfl,h3⟩;have dS:=XAA (aW.out.trans (KG.from_ (h3.more ql) (XAC _ _).drew));have W4:w3.cell? (A.kb,7)=some (.pointer (A.ob,0)):=dS.out.km.rd.k7;have Em:w3.cell? (w.heap.size,1)=I i:=(dS.out.md.blk HD2.out qbz).cell 1;have S7:w3.cell? (A.fb,k*12+4)=I (M.fr k).ai:=(dS.out.km.dt hk).f4;have S9:w3.cell? (A.fb,k*12+5)=I (M.fr k).aq:=(dS.out.km.dt hk).f5;have adh:w3.cell? (w.heap.size+1,3)=some (nV hr):=(dS.out.md.blk HB2.out.1 qch).cell 3));clear WZ An S2 S8 adg;clear W4 Em S7 S9 adh;clear h3;have Eo:w3.cell? (w.heap.size,2)=I b:=(dS.out.md.blk HD2.out qbz).cell 2;have M0:=XAA dS.out.km.drew;go_wp2;go_region_held3 (λw'=>w'.cell? (w.heap.size,2)=I b) (assumption) (first|(go_at_call 100;refine(uc M0.out b _).mono ?_;rintro e w4 ⟨rfl,f4,h4⟩;have br:=XAA (dS.out.trans (KG.from_ (h4.more ql) (XAC _ _).drew));have Mk:w4.cell? (w.heap.size,2)=I b:=(br.out.md.blk HD2.out qbz).cell 2));clear Eo;clear h4;have M_:=XAA br.out.km.drew;go_wp2;go_region_held3 (λw'=>w'.cell? (w.heap.size,2)=I b) (assumption) (first|(go_at_call 113;refine(Dp M_.out b _).mono ?_;rintro e w5 ⟨rfl,h5⟩;have bm:=XAA (br.out.trans (KG.from_ (h5.more ql) (XAC _ _).drew));have Ml:w5.cell? (w.heap.size,2)=I b:=(bm.out.md.blk HD2.out qbz).cell 2));clear Mk;clear Ml;clear h5;have a_:=bm.out.km.gm k;obtain⟨-,cX,-,-,-,-,-,-,p6,p7,p8,p9,-⟩:=a_.ga hk;have b6:=a_.fr.1.lt;have sd:=a_.vt hk 0 0 0 0;clear a_;go_upto_region 9 with fail
  refine bg (λwm hwm=>?_);rw [<-hwm] at sd;obtain⟨M9,hk9,P9⟩:∃M9,KG [1,3,5,10] A { M with s:=M.s+1 } M9 w2 wm/\Pd M M9 k (M.s+1+1):=⟨KS.wf { M with s:=M.s+1+1,fly:=f4 } k { M.fr k with pK:=0,pA:=0,pB:=0,pC:=0 },(bm.out.more (cZ:= [1,3,5,10]) ql).trans qhw,⟨R,R,R,R,R,R,λj hj=>cP hj,qbp,qbp,qbp,qbp,qbp⟩⟩;clear hwm sd p6 p7 p8 p9 cX b6;have H9:=XAA hk9;have iH:=XAA P9;have hkm:=hk9.km;have uN:=XAA (hk9.md.blk HB2.out.1 qch);have hzm:M9.cl (w.heap.size+1)=0:=(hk9.cl _ HB2.out.2).trans yT;clear hk9 P9;obtain⟨cL,cj,-,-,-,-,-,-,-,-,-,-,f10,-⟩:=hkm.dt hk;obtain⟨nh,mI⟩:=Xq ((M9.fr k).hs.length);obtain⟨nn,hnn⟩:=Xq M9.hs.length;obtain⟨B1,c1,hv1,-⟩:=Own.slice (hkm.fa k hk).2;obtain⟨B2,c2,hv2,-⟩:=Own.slice (show Own _ 9 wm _ 5 M9.hv M9.hs.length _ from hkm.hs);rw [mI] at hv1;rw [hnn] at hv2;have vr:wm.cell? (A.fb,k*12+10)=some (.slice B1 nh c1):=f10.trans (XAK some hv1);have k28:wm.cell? (A.kb,28)=some (.slice B2 nn c2):=hkm.rd.k28.trans (XAK some hv2);have a8:=hkm.rd.lt;have hfz:=cj (k*12+10);have hnl:nh+1<=30*M9.s:=qes
  have CV:nn+1<=30*M9.s:=qfc;have hs9:M9.s<=30000:=by have:=iH.out.s;omega
  have HO:Hid (((wm.alloc (.cells #[nV nn] 3)).drew).ownsRow 0 3 1 (.slice B1 nh c1) nh ((M9.fr k).hs.map nV)):=XAA (by
   have:=(Own.below (hkm.fa k hk).2 (((XAC _ wm).alloc (XAB _) (.cells #[nV nn] 3)).drew)).1
   rw [hv1,mI] at this;exact this)
  have HR:=XAA ((Reads.lit wm 3 #[nV nn] 1 1 R).drew);have re:Hid (∀(o:Obj)(w3:World),(wm.alloc o).drew.grownBy w3 (Value.slice B1 nh c1).ownBlock->w3.heap[A.fb]? =wm.heap[A.fb]?):=XAA λo w3 hg=>(hg.block A.fb qhz λe=>by
   rw [<-hv1] at e
   have h1:=((hkm.fa k hk).2.2 _ e.symm).2
   rw [hkm.fr.2] at h1
   omega).trans (XAX wm _ _ cL)
  have E1:=XAA hv1;have E2:=XAA hv2;have NH:=XAA mI;have NN:=XAA hnn;have fG:=XAA hkm;clear hv1 hv2 mI hnn f10 hkm cj;apply kJ (A:=λg3 cap3 w5=>Hd1 A M9 k wm (.slice (some ⟨g3,0,none⟩) (nh+1) cap3) w5)
  .intro hnext;go_region_law (refine iS nP R qf sk R _ _ qu _ nh ((M9.fr k).hs.map nV) qu HO.out (some ⟨wm.heap.size,0,none⟩) 1 1 [nV nn] qu HR.out qk qd qf qd ?_;intro g3 cap3 w3 ho3 hg3 hq3;have hfn:=re.out _ w3 hg3;have hy:=(XAP (w:=wm) (a:=⟨A.fb,k*12+10,none⟩) hfn).trans vr;have hz:=(XAh (w:=wm) (a:=⟨A.fb,k*12+10,none⟩) hfn).trans hfz;clear hfn);all_goals
    have h5:=fG.out.hand1 hk (k:=k) (n:=nh) (o:=.cells #[nV nn] 3) (w3:=w3) (g:=g3) (cap:=cap3) NH.out (by rw [NN.out];exact ho3) qif qig;generalize w3.setCell (A.fb,k*12+10) (.slice (g3,0) (nh+1) cap3)=w5 at h5 ⊢;exact hnext g3 cap3 w5 h5
  .rintro g3 cap3 w5 h5;have H5:=XAA h5;have hw5:=h5.md.size;have Da:w5.cell? (A.kb,28)=some (.slice B2 nn c2):=(XAP (w:=wm) (a:=⟨A.kb,28,none⟩) (h5.md.block A.kb a8 qfx)).trans k28;have lL:w5.frozen? (A.kb,28)=false:=(XAh (w:=wm) (a:=⟨A.kb,28,none⟩) (h5.md.block A.kb a8 qfx)).trans (fG.out.rd.frz 28);have hb5:=h5.md.blk uN.out (by rw [hzm];simp;omega);have z0:=hb5.cell 0;have z1:=hb5.cell 1;have z2:=hb5.cell 2;have z3:=hb5.cell 3;have z4:=hb5.cell 4;have zl:=hb5.lt;have wi:A.kb<w5.heap.size:=XAH a8 hw5;have fH:Hid (((w5.alloc (.cells #[I i,I (M.fr k).ai,I (M.fr k).aq,I hr,.bool true] 68)).drew).ownsRow 0 68 5 (.slice B2 nn c2) nn (M9.hs.flatMap cB)):=XAA (by
    have:=(Own.below (Own.md (show Own _ 9 wm 68 5 M9.hv M9.hs.length (M9.hs.flatMap cB) from fG.out.hs) h5.md qj) (((XAC _ w5).alloc (XAB _) (.cells #[I i,I (M.fr k).ai,I (M.fr k).aq,I hr,.bool true] 68)).drew)).1
    rw [E2.out,NN.out] at this;exact this)
   have HR2:=XAA ((Reads.lit w5 68 #[I i,I (M.fr k).ai,I (M.fr k).aq,I hr,.bool true] 1 5 R).drew);have oB:Hid (∀(o:Obj)(w3:World),(w5.alloc o).drew.grownBy w3 (Value.slice B2 nn c2).ownBlock->w3.heap[A.kb]? =w5.heap[A.kb]?):=XAA λo w3 hg=>(hg.block A.kb qia λe=>by
    rw [<-E2.out] at e
    have h1:=((show Own _ 9 wm 68 5 M9.hv M9.hs.length (M9.hs.flatMap cB) from fG.out.hs).2 _ e.symm).2
    rw [fG.out.k.2] at h1
    cases h1).trans (XAX w5 _ _ wi)
   clear h5 k28 hb5 HO HR vr hfz uN;go_wp2;apply kJ (A:=λg4 cap4 w7=>∃c2',KM A w7 { M9 with cl:=c2',hv:=.slice (some ⟨g4,0,none⟩) (nn+1) cap4,hs:=M9.hs++ [⟨i,(M.fr k).ai,(M.fr k).aq,(hr:Int),true⟩],fr:=aL M9.fr k { M9.fr k with hv:=.slice (some ⟨g3,0,none⟩) (nh+1) cap3,hs:=(M9.fr k).hs++ [M9.hs.length] } } /\KF [] M9.cl c2' wm w7)
   .intro hnext;go_region_law (refine iS JB R qf XC7 R _ _ qu _ nn (M9.hs.flatMap cB) qu fH.out (some ⟨w5.heap.size,0,none⟩) 1 1 [I i,I (M.fr k).ai,I (M.fr k).aq,I hr,.bool true] qu HR2.out qk qd qf qd ?_;intro g4 cap4 w6 cD nL hq6;have hfn:=oB.out _ w6 nL;have hy:=(XAP (w:=w5) (a:=⟨A.kb,28,none⟩) hfn).trans Da;have hz:=(XAh (w:=w5) (a:=⟨A.kb,28,none⟩) hfn).trans lL;clear hfn);all_goals
     have h7:=fG.out.hand2 hk H5.out ⟨i,(M.fr k).ai,(M.fr k).aq,(hr:Int),true⟩ (by rw [iH.out.cs];exact hilt) (by rw [NN.out];exact CV) (by rw [NH.out];exact hnl) (n:=nn) (o:=.cells #[I i,I (M.fr k).ai,I (M.fr k).aq,I hr,.bool true] 68) (w3:=w6) (g:=g4) (cap:=cap4) NN.out cD (by rw [E2.out];exact nL) (by rw [E2.out];exact hq6);generalize w6.setCell (A.kb,28) (.slice (g4,0) (nn+1) cap4)=w7 at h7 ⊢;exact hnext g4 cap4 w7 h7
   .rintro g4 cap4 w7 ⟨c2',h8,h9⟩;have H8:=XAA h8;have Aw:=XAA h9;clear h8 h9;refine Xe ?_;have p9:=iH.out;refine⟨R,_,H8.out,(HF2.out.trans (H9.out.kf qf)).trans Aw.out,⟨λj hj=>(cP hj).trans (p9.fr j hj),qgm,qgl,p9.ds,by show M.s<=M9.s;have:=p9.s;omega⟩,by show M9.s<=_;have:=p9.s;omega,λhb0=>?_⟩;exact absurd hb0 qd
 .have a_:=bP.out.km.gm k;obtain⟨-,cX,-,-,-,-,-,-,p6,p7,p8,p9,-⟩:=a_.ga hk;have b6:=a_.fr.1.lt;have sd:=a_.vt hk 0 0 0 0;clear a_;go_upto_region 9 with fail
  refine bg (λwm hwm=>?_);rw [<-hwm] at sd;obtain⟨M9,hk9,P9⟩:∃M9,KG [1,3,5,10] A { M with s:=M.s+1 } M9 w0 wm/\Pd M M9 k (M.s+1):=⟨KS.wf { M with s:=M.s+1 } k { M.fr k with pK:=0,pA:=0,pB:=0,pC:=0 },(bP.out.more (cZ:= [1,3,5,10]) ql).trans qhw,⟨R,R,R,R,R,R,λj hj=>cP hj,qbp,qbp,qbp,qbp,qbp⟩⟩;clear hwm sd p6 p7 p8 p9 cX b6;have H9:=XAA hk9;have iH:=XAA P9;have hkm:=hk9.km;have uN:=XAA (hk9.md.blk HB.out.1 qch);have hzm:M9.cl (w.heap.size+1)=0:=(hk9.cl _ HB.out.2).trans yT;clear hk9 P9;obtain⟨cL,cj,-,-,-,-,-,-,-,-,-,-,f10,-⟩:=hkm.dt hk;obtain⟨nh,mI⟩:=Xq ((M9.fr k).hs.length);obtain⟨nn,hnn⟩:=Xq M9.hs.length;obtain⟨B1,c1,hv1,-⟩:=Own.slice (hkm.fa k hk).2;obtain⟨B2,c2,hv2,-⟩:=Own.slice (show Own _ 9 wm _ 5 M9.hv M9.hs.length _ from hkm.hs);rw [mI] at hv1;rw [hnn] at hv2;have vr:wm.cell? (A.fb,k*12+10)=some (.slice B1 nh c1):=f10.trans (XAK some hv1);have k28:wm.cell? (A.kb,28)=some (.slice B2 nn c2):=hkm.rd.k28.trans (XAK some hv2);have a8:=hkm.rd.lt;have hfz:=cj (k*12+10);have hnl:nh+1<=30*M9.s:=qes
  have CV:nn+1<=30*M9.s:=qfc;have hs9:M9.s<=30000:=by have:=iH.out.s;omega
  have HO:Hid (((wm.alloc (.cells #[nV nn] 3)).drew).ownsRow 0 3 1 (.slice B1 nh c1) nh ((M9.fr k).hs.map nV)):=XAA (by
   have:=(Own.below (hkm.fa k hk).2 (((XAC _ wm).alloc (XAB _) (.cells #[nV nn] 3)).drew)).1
   rw [hv1,mI] at this;exact this)
  have HR:=XAA ((Reads.lit wm 3 #[nV nn] 1 1 R).drew);have re:Hid (∀(o:Obj)(w3:World),(wm.alloc o).drew.grownBy w3 (Value.slice B1 nh c1).ownBlock->w3.heap[A.fb]? =wm.heap[A.fb]?):=XAA λo w3 hg=>(hg.block A.fb qhz λe=>by
   rw [<-hv1] at e
   have h1:=((hkm.fa k hk).2.2 _ e.symm).2
   rw [hkm.fr.2] at h1
   omega).trans (XAX wm _ _ cL)
  have E1:=XAA hv1;have E2:=XAA hv2;have NH:=XAA mI;have NN:=XAA hnn;have fG:=XAA hkm;clear hv1 hv2 mI hnn f10 hkm cj;apply kJ (A:=λg3 cap3 w5=>Hd1 A M9 k wm (.slice (some ⟨g3,0,none⟩) (nh+1) cap3) w5)
  .intro hnext;go_region_law (refine iS nP R qf sk R _ _ qu _ nh ((M9.fr k).hs.map nV) qu HO.out (some ⟨wm.heap.size,0,none⟩) 1 1 [nV nn] qu HR.out qk qd qf qd ?_;intro g3 cap3 w3 ho3 hg3 hq3;have hfn:=re.out _ w3 hg3;have hy:=(XAP (w:=wm) (a:=⟨A.fb,k*12+10,none⟩) hfn).trans vr;have hz:=(XAh (w:=wm) (a:=⟨A.fb,k*12+10,none⟩) hfn).trans hfz;clear hfn);all_goals
    have h5:=fG.out.hand1 hk (k:=k) (n:=nh) (o:=.cells #[nV nn] 3) (w3:=w3) (g:=g3) (cap:=cap3) NH.out (by rw [NN.out];exact ho3) qif qig;generalize w3.setCell (A.fb,k*12+10) (.slice (g3,0) (nh+1) cap3)=w5 at h5 ⊢;exact hnext g3 cap3 w5 h5
  .rintro g3 cap3 w5 h5;have H5:=XAA h5;have hw5:=h5.md.size;have Da:w5.cell? (A.kb,28)=some (.slice B2 nn c2):=(XAP (w:=wm) (a:=⟨A.kb,28,none⟩) (h5.md.block A.kb a8 qfx)).trans k28;have lL:w5.frozen? (A.kb,28)=false:=(XAh (w:=wm) (a:=⟨A.kb,28,none⟩) (h5.md.block A.kb a8 qfx)).trans (fG.out.rd.frz 28);have hb5:=h5.md.blk uN.out (by rw [hzm];simp;omega);have z0:=hb5.cell 0;have z1:=hb5.cell 1;have z2:=hb5.cell 2;have z3:=hb5.cell 3;have z4:=hb5.cell 4;have zl:=hb5.lt;have wi:A.kb<w5.heap.size:=XAH a8 hw5;have fH:Hid (((w5.alloc (.cells #[I i,I (M.fr k).ai,I (M.fr k).aq,I 0,.bool true] 68)).drew).ownsRow 0 68 5 (.slice B2 nn c2) nn (M9.hs.flatMap cB)):=XAA (by
    have:=(Own.below (Own.md (show Own _ 9 wm 68 5 M9.hv M9.hs.length (M9.hs.flatMap cB) from fG.out.hs) h5.md qj) (((XAC _ w5).alloc (XAB _) (.cells #[I i,I (M.fr k).ai,I (M.fr k).aq,I 0,.bool true] 68)).drew)).1
    rw [E2.out,NN.out] at this;exact this)
   have HR2:=XAA ((Reads.lit w5 68 #[I i,I (M.fr k).ai,I (M.fr k).aq,I 0,.bool true] 1 5 R).drew);have oB:Hid (∀(o:Obj)(w3:World),(w5.alloc o).drew.grownBy w3 (Value.slice B2 nn c2).ownBlock->w3.heap[A.kb]? =w5.heap[A.kb]?):=XAA λo w3 hg=>(hg.block A.kb qia λe=>by
    rw [<-E2.out] at e
    have h1:=((show Own _ 9 wm 68 5 M9.hv M9.hs.length (M9.hs.flatMap cB) from fG.out.hs).2 _ e.symm).2
    rw [fG.out.k.2] at h1
    cases h1).trans (XAX w5 _ _ wi)
   clear h5 k28 hb5 HO HR vr hfz uN;go_wp2;apply kJ (A:=λg4 cap4 w7=>∃c2',KM A w7 { M9 with cl:=c2',hv:=.slice (some ⟨g4,0,none⟩) (nn+1) cap4,hs:=M9.hs++ [⟨i,(M.fr k).ai,(M.fr k).aq,0,true⟩],fr:=aL M9.fr k { M9.fr k with hv:=.slice (some ⟨g3,0,none⟩) (nh+1) cap3,hs:=(M9.fr k).hs++ [M9.hs.length] } } /\KF [] M9.cl c2' wm w7)
   .intro hnext;go_region_law (refine iS JB R qf XC7 R _ _ qu _ nn (M9.hs.flatMap cB) qu fH.out (some ⟨w5.heap.size,0,none⟩) 1 1 [I i,I (M.fr k).ai,I (M.fr k).aq,I 0,.bool true] qu HR2.out qk qd qf qd ?_;intro g4 cap4 w6 cD nL hq6;have hfn:=oB.out _ w6 nL;have hy:=(XAP (w:=w5) (a:=⟨A.kb,28,none⟩) hfn).trans Da;have hz:=(XAh (w:=w5) (a:=⟨A.kb,28,none⟩) hfn).trans lL;clear hfn);all_goals
     have h7:=fG.out.hand2 hk H5.out ⟨i,(M.fr k).ai,(M.fr k).aq,0,true⟩ (by rw [iH.out.cs];exact hilt) (by rw [NN.out];exact CV) (by rw [NH.out];exact hnl) (n:=nn) (o:=.cells #[I i,I (M.fr k).ai,I (M.fr k).aq,I 0,.bool true] 68) (w3:=w6) (g:=g4) (cap:=cap4) NN.out cD (by rw [E2.out];exact nL) (by rw [E2.out];exact hq6);generalize w6.setCell (A.kb,28) (.slice (g4,0) (nn+1) cap4)=w7 at h7 ⊢;exact hnext g4 cap4 w7 h7
   .rintro g4 cap4 w7 ⟨c2',h8,h9⟩;have H8:=XAA h8;have Aw:=XAA h9;clear h8 h9;refine Xe ?_;have p9:=iH.out;refine⟨R,_,H8.out,(dD.out.trans (H9.out.kf qf)).trans Aw.out,⟨λj hj=>(cP hj).trans (p9.fr j hj),qgm,qgl,p9.ds,by show M.s<=M9.s;have:=p9.s;omega⟩,by show M9.s<=_;have:=p9.s;omega,λhb0=>?_⟩;exact⟨p9.cs,p9.T,p9.gr,by show M9.hs++_=_;rw [p9.hs],by show(aL _ k _ k).acts=_;rw [b_];exact p9.ac,by show(aL _ k _ k).hs=_;rw [b_];show(M9.fr k).hs++ [M9.hs.length]=_;rw [p9.el,p9.hs],by show(aL _ k _ k).e=_;rw [b_];exact p9.e⟩
end
section
open Go.Shelf
theorem Yv(x:Int)(w:World):Z 116 #[I x] w λe w'=>e=.returned (.bool (decide (0<=x)))/\w'=w:=by
 go_enter func116,ntmps116;go_wp2;go_ret;exact⟨R,R⟩
theorem acp(w:World):PredAt prog 116 #[] (λp:Int=>I p) (λp=>decide (0<=p)) w:=λW x _=>by
 show Z 116 #[I x] W λe w'=>e=.returned (.bool (decide (0<=x)))/\∃q,w'=W.drewN q;exact(Yv x W).mono λe w' h=>⟨h.1,0,h.2⟩
theorem Yh(w:World)(g n cap:Nat)(l:List Int)(hn:l.length=n)(h:aG w g 3 (l.map (Value.int .i64)))(hl:n<=4096):Z 44 #[.slice (g,0) n cap,.func (.func 116) #[] #[]] w λe w'=>∃b,e=.returned (.bool b)/\Below w w w':=by
 subst hn;have eg:∀args w,(callFunc 116 args).run prog w=.ok (.enter 116 args) w:=enters_of func116 qh rfl;have hcon:=AnyE.slices_ContainsFunc D1 (λp:Int=>I p) (λp=>decide (0<=p)) 116 #[] eg g 0 l.length cap l w (acp w) (XAB _) qd (λj hj=>by
  rw [XAV]
  refine h.cell j _ ?_
  simp [hj])
 change Z 44 _ _ _ at hcon;exact hcon.mono λe w' ⟨h1,q,h2⟩=>⟨_,h1,qhv⟩
section
variable{A:KA}{M M1 M2:KS}{w w' w2:World}{i k:Nat}{x y:Cc}
def Oy(A:KA)(M:KS)(w:World)(e:Ending)(w':World):Prop:=
 ∃(b:Bool)(M':KS),e=.returned (.bool b)/\KM A w' M'/\KF [] M.cl M'.cl w w'/\Sm M M'/\M'.s<=M.s+8
theorem Yt(h:KM A w M)(hs:M.s<=29000)(hi:M.cs[i]? =some x):Z 78 #[(A.kb,0),I k,I i] w (Oy A M w):=by
 obtain⟨gc,cap,hcv,hcap,hci,hgl⟩:=h.gK hi;have k27:=h.rd.k27;rw [hcv] at k27;obtain⟨xlt,-,-,-,-,-,-,x5,x6,-⟩:=h.cw hi;have k0:=h.rd.k0;have hc8:=h.ok.c8;have a1:¬(i:Int)<0:=qd
 have a2:¬M.cs.length<=i:=XBU.2 (lt_of_some hi);have hx:=h.cs.2 i x hi;have NO:=XAA (Yh w x.pg 32 x.zp x.P hx.pl hx.pg qd);have HC:=XAA h;clear h hcv hx hi;rcases (by cases(x.waits==0)<;>simp:(x.waits==0)=true\/(x.waits==0)=false) with hw|hw
 .go_enter func78,ntmps78;go_wp2_with (go_at_call 44;refine NO.out.mono ?_;rintro e w1 ⟨b,rfl,hb⟩;cases b<;>(have HB:=XAA hb;have k0':=(HC.out.below hb).rd.k0;clear hb))
  .go_ret;exact⟨true,M,R,HC.out.below HB.out,KF.below [] _ HB.out,Sm.refl _,XCL _ _⟩
  .skip
   go_loopw [8,37] (λ_ z wr=>∃(n:Nat)(M':KS),z=I n/\n<=A.C/\KM A wr M'/\KF [] M.cl M'.cl w wr/\Sm M M'/\M'.s<=M.s+n) (λ_ z _=>A.C-(intOf z).toNat)
   case atStart=>exact⟨0,M,R,XAJ _,HC.out.below HB.out,KF.below [] _ HB.out,Sm.refl _,XAB _⟩
   case round=>
    obtain⟨n,M',rfl,hn,hkm,a_,hsm,hs'⟩:=hrel;have HK:=XAA hkm;have HF:=XAA a_;have HS:=XAA hsm;have v8:=hkm.rd.k0;clear hkm a_ hsm;by_cases hlt:n<A.C
    .have b1:(n:Int)<(A.C:Int):=by omega
     obtain⟨rb,hrb⟩:=Xq (((n:Int)==(k:Int)|| !dI A M' n));have iY:=XAA hrb;clear hrb v8;cases rb with
     |false=>
      go_wp2_with (go_at_call 117;refine(pD HK.out hlt (k:Int)).mono ?_;rintro e w3 ⟨rfl,hb3⟩;rw [iY.out];have HB3:=XAA hb3;clear hb3);go_roundw
      case rel=>exact⟨n+1,M',qbf,hlt,HK.out.below HB3.out,HF.out.trans (KF.below [] _ HB3.out),HS.out,qd⟩
      case measure=>simp [intOf];omega
     |true=>
      have hs3:M'.s<=30000:=qd;go_wp2_with (first|(go_at_call 117;refine(pD HK.out hlt (k:Int)).mono ?_;rintro e w3 ⟨rfl,hb3⟩;rw [iY.out];have HB3:=XAA hb3;have H3:=XAA (HK.out.below hb3);have k26:=H3.out.rd.k26;clear hb3)|(go_at_call 63;refine(yZ H3.out hs3 hlt).mono ?_;rintro e w4 ⟨r4,c4,rfl,h4⟩;have H4:=XAA h4;clear h4));go_roundw
      case rel=>exact⟨n+1,_,qbf,hlt,H4.out.km,(HF.out.trans (KF.below [] _ HB3.out)).trans (H4.out.kf qf),⟨HS.out.fr,HS.out.hs,HS.out.ds,HS.out.cs,HS.out.tn,HS.out.G,Nat.le_succ_of_le HS.out.s⟩,by show M'.s+1<=_;omega⟩
      case measure=>simp [intOf];omega
    .obtain rfl:n=A.C:=by omega
     go_wp2;go_loopw [9,56] (λ_ z wr=>∃(n:Nat)(M':KS),z=I n/\n<=A.C/\KM A wr M'/\KF [] M.cl M'.cl w wr/\Sm M M'/\M'.s<=M.s+8) (λ_ z _=>A.C-(intOf z).toNat)
     case atStart=>exact⟨0,M',R,XAJ _,HK.out,HF.out,HS.out,qd⟩
     case round=>
      clear HK HF HS hs' v8;obtain⟨n,M5,rfl,pd,hkm,a_,hsm,hs5⟩:=hrel;have HK:=XAA hkm;have HF:=XAA a_;have HS:=XAA hsm;clear hkm a_ hsm;by_cases hlt:n<A.C
      .have b1:(n:Int)<(A.C:Int):=by omega
       obtain⟨rb,hrb⟩:=Xq (((n:Int)==(k:Int)|| !dI A M5 n));have iY:=XAA hrb;clear hrb;cases rb with
       |false=>
        go_wp2_with (go_at_call 117;refine(pD HK.out hlt (k:Int)).mono ?_;rintro e w3 ⟨rfl,hb3⟩;rw [iY.out];have HB3:=XAA hb3;clear hb3);go_roundw
        case rel=>exact⟨n+1,M5,qbf,hlt,HK.out.below HB3.out,HF.out.trans (KF.below [] _ HB3.out),HS.out,hs5⟩
        case measure=>simp [intOf];omega
       |true=>
        go_wp2_with (first|(go_at_call 117;refine(pD HK.out hlt (k:Int)).mono ?_;rintro e w3 ⟨rfl,hb3⟩;rw [iY.out];have HB3:=XAA hb3;have H3:=XAA (HK.out.below hb3);clear hb3)|(go_at_call 64;refine(Dq H3.out hlt).mono ?_;rintro e w4 ⟨rfl,M6,h6,f6,s6,e6,-,-⟩;have H6:=XAA h6;have F6:=XAA f6;have S6:=XAA s6;have E6:=XAA e6;clear h6 f6 s6 e6));go_roundw
        case rel=>exact⟨n+1,M6,qbf,hlt,H6.out,(HF.out.trans (KF.below [] _ HB3.out)).trans F6.out,HS.out.trans S6.out,by rw [E6.out];exact hs5⟩
        case measure=>simp [intOf];omega
      .obtain rfl:n=A.C:=by omega
       go_wp2;go_ret;exact⟨false,M5,R,HK.out,HF.out,HS.out,hs5⟩
 .go_enter func78,ntmps78;go_wp2;have HB:Hid (Below w w w):=XAA (XAC _ _);go_loopw [8,37] (λ_ z wr=>∃(n:Nat)(M':KS),z=I n/\n<=A.C/\KM A wr M'/\KF [] M.cl M'.cl w wr/\Sm M M'/\M'.s<=M.s+n) (λ_ z _=>A.C-(intOf z).toNat)
  case atStart=>exact⟨0,M,R,XAJ _,HC.out.below HB.out,KF.below [] _ HB.out,Sm.refl _,XAB _⟩
  case round=>
   obtain⟨n,M',rfl,hn,hkm,a_,hsm,hs'⟩:=hrel;have HK:=XAA hkm;have HF:=XAA a_;have HS:=XAA hsm;have v8:=hkm.rd.k0;clear hkm a_ hsm;by_cases hlt:n<A.C
   .have b1:(n:Int)<(A.C:Int):=by omega
    obtain⟨rb,hrb⟩:=Xq (((n:Int)==(k:Int)|| !dI A M' n));have iY:=XAA hrb;clear hrb v8;cases rb with
    |false=>
     go_wp2_with (go_at_call 117;refine(pD HK.out hlt (k:Int)).mono ?_;rintro e w3 ⟨rfl,hb3⟩;rw [iY.out];have HB3:=XAA hb3;clear hb3);go_roundw
     case rel=>exact⟨n+1,M',qbf,hlt,HK.out.below HB3.out,HF.out.trans (KF.below [] _ HB3.out),HS.out,qd⟩
     case measure=>simp [intOf];omega
    |true=>
     have hs3:M'.s<=30000:=qd;go_wp2_with (first|(go_at_call 117;refine(pD HK.out hlt (k:Int)).mono ?_;rintro e w3 ⟨rfl,hb3⟩;rw [iY.out];have HB3:=XAA hb3;have H3:=XAA (HK.out.below hb3);have k26:=H3.out.rd.k26;clear hb3)|(go_at_call 63;refine(yZ H3.out hs3 hlt).mono ?_;rintro e w4 ⟨r4,c4,rfl,h4⟩;have H4:=XAA h4;clear h4));go_roundw
     case rel=>exact⟨n+1,_,qbf,hlt,H4.out.km,(HF.out.trans (KF.below [] _ HB3.out)).trans (H4.out.kf qf),⟨HS.out.fr,HS.out.hs,HS.out.ds,HS.out.cs,HS.out.tn,HS.out.G,Nat.le_succ_of_le HS.out.s⟩,by show M'.s+1<=_;omega⟩
     case measure=>simp [intOf];omega
   .obtain rfl:n=A.C:=by omega
    go_wp2;go_loopw [9,56] (λ_ z wr=>∃(n:Nat)(M':KS),z=I n/\n<=A.C/\KM A wr M'/\KF [] M.cl M'.cl w wr/\Sm M M'/\M'.s<=M.s+8) (λ_ z _=>A.C-(intOf z).toNat)
    case atStart=>exact⟨0,M',R,XAJ _,HK.out,HF.out,HS.out,qd⟩
    case round=>
     clear HK HF HS hs' v8;obtain⟨n,M5,rfl,pd,hkm,a_,hsm,hs5⟩:=hrel;have HK:=XAA hkm;have HF:=XAA a_;have HS:=XAA hsm;clear hkm a_ hsm;by_cases hlt:n<A.C
     .have b1:(n:Int)<(A.C:Int):=by omega
      obtain⟨rb,hrb⟩:=Xq (((n:Int)==(k:Int)|| !dI A M5 n));have iY:=XAA hrb;clear hrb;cases rb with
      |false=>
       go_wp2_with (go_at_call 117;refine(pD HK.out hlt (k:Int)).mono ?_;rintro e w3 ⟨rfl,hb3⟩;rw [iY.out];have HB3:=XAA hb3;clear hb3);go_roundw
       case rel=>exact⟨n+1,M5,qbf,hlt,HK.out.below HB3.out,HF.out.trans (KF.below [] _ HB3.out),HS.out,hs5⟩
       case measure=>simp [intOf];omega
      |true=>
       go_wp2_with (first|(go_at_call 117;refine(pD HK.out hlt (k:Int)).mono ?_;rintro e w3 ⟨rfl,hb3⟩;rw [iY.out];have HB3:=XAA hb3;have H3:=XAA (HK.out.below hb3);clear hb3)|(go_at_call 64;refine(Dq H3.out hlt).mono ?_;rintro e w4 ⟨rfl,M6,h6,f6,s6,e6,-,-⟩;have H6:=XAA h6;have F6:=XAA f6;have S6:=XAA s6;have E6:=XAA e6;clear h6 f6 s6 e6));go_roundw
       case rel=>exact⟨n+1,M6,qbf,hlt,H6.out,(HF.out.trans (KF.below [] _ HB3.out)).trans F6.out,HS.out.trans S6.out,by rw [E6.out];exact hs5⟩
       case measure=>simp [intOf];omega
     .obtain rfl:n=A.C:=by omega
      go_wp2;go_ret;exact⟨false,M5,R,HK.out,HF.out,HS.out,hs5⟩
end
end
section
variable{A:KA}{M M1 M2:KS}{w w' w2:World}{i k:Nat}{x:Cc}{y:Hn}
structure lZ(A:KA)(M M':KS)(k:Nat):Prop where
 co:∀K a c i r x,(M.fr k).acts=⟨173,K,a,(i:Nat),c⟩::r->M.cs[i]? =some x->uJ A M M' k i x a c r
 ow:∀c i r,(M.fr k).acts=⟨176,4,(i:Nat),0,c⟩::r->M'.cs=M.cs/\M'.T=M.T/\M'.gr=M.gr/\M'.hs=M.hs++ [⟨i,(M.fr k).ai,(M.fr k).aq,0,true⟩]/\(M'.fr k).acts=r/\(M'.fr k).hs=(M.fr k).hs++ [M.hs.length]/\(M'.fr k).e=(M.fr k).e
def tq(A:KA)(M:KS)(k:Nat)(w:World)(e:Ending)(w':World):Prop:=
 e=.returned (.tuple #[])/\∃M',KM A w' M'/\KF [] M.cl M'.cl w w'/\Ax M M' k/\M'.s<=M.s+10/\lZ A M M' k
theorem XQ(h:KM A w M)(hs:M.s<=28000)(hk:k<A.C)(K a c:Int)(hi:M.cs[i]? =some x)(r:List Ac)(hA:(M.fr k).acts=⟨173,K,a,i,c⟩::r):Z 74 #[(A.kb,0),I k,.pointer (A.fb,k*12),.agg (bG K a i c)] w (A7 A M k i x a c r w):=by
 cases hQ:x.Q k with
 |none=>exact XS h hs hk K a c hi r hQ
 |some t=>exact XR h hs hk K a c hi r hA hQ
theorem lZ.other{M':KS}{a:Ac}{r:List Ac}(hA:(M.fr k).acts=a::r)(h1:a.ty≠173)(h2:a.ty≠176\/a.K≠4):lZ A M M' k:=by
 refine⟨λK a' c i r' x h=>?_,λc i r' h=>?_⟩
 .rw [hA] at h;injection h with h;subst h;exact absurd R h1
 .rw [hA] at h;injection h with h;subst h
  rcases h2 with h2|h2<;>exact absurd R h2
theorem KF.two(h:Below w w w'){aD:Nat->Nat}(h':KF [] M.cl aD w' w2):KF [] M.cl aD w w2:=(KF.below [] M.cl h).trans h'
theorem Xw(h:KM A w M)(hs:M.s<=28000)(hk:k<A.C)(K a b c:Int)(r:List Ac)(hA:(M.fr k).acts=⟨157,K,a,b,c⟩::r):Z 60 #[(A.kb,0),I k,.pointer (A.fb,k*12)] w (tq A M k w):=by
 obtain⟨g,off,cap,hav,hcap,hcx,hgl,-,-⟩:=h.kE hk hA;obtain⟨cL,-,-,-,-,f3,-⟩:=h.dt hk;rw [hav] at f3;have e1:=PJ;have HP:=XAA (Yg (h.alloc (.cells (bG K a b c) 157)) qd hk K a b c r hA);have HA:=XAA hA;have g1:¬r.length+1<=0:=qd
 clear h hA hav;go_enter func60,ntmps60;go_wp2_with (go_at_call 73;refine HP.out.mono ?_;rintro e w1 ⟨rfl,M',h1,k1,a1,s1⟩;have H1:=XAA (And.intro h1 (And.intro k1 (And.intro a1 s1)));clear h1 k1 a1 s1);(first|go_end0|refine Xe ?_);obtain⟨h1,k1,a1,s1⟩:=H1.out;exact⟨R,M',h1,KF.two ((XAC _ w).alloc (XAB _) _) k1,a1,qd,lZ.other HA.out qdn (.inl qdn)⟩
theorem Xz(h:KM A w M)(hs:M.s<=28000)(hk:k<A.C)(K a c:Int)(hi:M.cs[i]? =some x)(r:List Ac)(hA:(M.fr k).acts=⟨173,K,a,i,c⟩::r):Z 60 #[(A.kb,0),I k,.pointer (A.fb,k*12)] w (tq A M k w):=by
 obtain⟨g,off,cap,hav,hcap,hcx,hgl,-,-⟩:=h.kE hk hA;obtain⟨cL,-,-,-,-,f3,-⟩:=h.dt hk;rw [hav] at f3;have e1:=PN;have e2:=Gc;have HP:=XAA (XQ ((h.alloc (.cells (bG 0 0 0 0) 157)).alloc (.cells (bG K a i c) 173)) qd hk K a c hi r hA);have HA:=XAA hA;have HI:=XAA hi;have g1:¬r.length+1<=0:=qd
 clear h hA hav hi;go_enter func60,ntmps60;go_wp2_with (go_at_call 74;refine HP.out.mono ?_;rintro e w1 ⟨rfl,M',h1,k1,a1,s1,x1⟩;have H1:=XAA (And.intro h1 (And.intro k1 (And.intro a1 (And.intro s1 x1))));clear h1 k1 a1 s1 x1);(first|go_end0|refine Xe ?_);obtain⟨h1,k1,a1,s1,x1⟩:=H1.out;refine⟨rfl,M',h1,KF.two (((XAC _ w).alloc (XAB _) _).alloc ql _) k1,a1,qd,⟨λK' a' c' i' r' x' h hx=>?_,λc i r' h=>?_⟩⟩
 .rw [HA.out] at h;injection h with h hr;injection h with h2 h3 h4 h5 h6;have e:i=i':=by omega
  subst e;rw [HI.out] at hx;injection hx with hx;subst hx h4 h6 hr;exact x1
 .rw [HA.out] at h;injection h with h hr;injection h with h2;exact absurd h2 qf
theorem Xx(h:KM A w M)(hs:M.s<=28000)(hk:k<A.C)(b c:Int)(hi:M.cs[i]? =some x)(r:List Ac)(hA:(M.fr k).acts=⟨176,4,i,b,c⟩::r):Z 60 #[(A.kb,0),I k,.pointer (A.fb,k*12)] w (tq A M k w):=by
 have HI:=XAA hi;have hzb:M.cl (w.heap.size+2)=0:=h.new _ qd;obtain⟨g0,KH,cap0,o7,hcap0,vN,vS,-,-⟩:=h.kE hk hA;obtain⟨vw,-,-,-,-,f30,-⟩:=h.dt hk;rw [o7] at f30;have e1:=Bs;have e2:=x_;have e3:=Bq;have g1:¬r.length+1<=0:=qd
 have HC:=XAA h;have HA:=XAA hA;clear h hA o7;go_enter func60,ntmps60;go_upto_region 7 with fail
 refine bg (λw0 hw0=>?_);have H0:Hid (KM A w0 M):=XAA qei;have dD:Hid (KF [] M.cl M.cl w w0):=XAA (KF.below [] M.cl qbs);have HB:Hid (ak w0 (w.heap.size+2) 176 (bG 4 i b c)):=XAA (by
  rw [hw0]
  have:=ak.new ((w.alloc (.cells (bG 0 0 0 0) 157)).alloc (.cells (bG 0 0 0 0) 173)) 176 (bG 4 i b c)
  simp only [XAT] at this
  exact this)
 clear hw0 vN vS vw f30 hcap0 e1 e2 e3 g1;have y0:w0.cell? (w.heap.size+2,0)=I 4:=HB.out.cell 0;obtain⟨g,off,cap,hav,hcap,-,hg,hcl,hrow⟩:=H0.out.kE hk HA.out;obtain⟨cL,cj,-,-,-,f3,-⟩:=H0.out.dt hk;rw [hav] at f3;obtain⟨m,hm⟩:=Xq r.length;rw [hm] at f3 hcap hav;have mC:=cj (k*12+3);go_upto_region 12 with(refine sP qu _ qu g off m cap qu hcap ?_;intro off' iq)
 refine bg (λw6 hw6=>?_);obtain⟨M6,H6,F6,Y6,E6⟩:∃M6,Hid (KM A w6 M6)/\Hid (KF [] M.cl M6.cl w0 w6)/\Hid (Ay M M6 k r)/\Hid (∃av,M6=M.wf k { M.fr k with av:=av,acts:=r }):=qbn;have dw:=XAA (F6.out.keep HB.out hzb ql).1;have hs6:M6.s<=28000:=by rw [Y6.out.s];exact hs
 clear hw6 hav hcap hg hcl hrow iq f3 cj mC cL hm;have y0':w6.cell? (w.heap.size+2,0)=I 4:=dw.out.cell 0;have y1':w6.cell? (w.heap.size+2,1)=some (nV i):=dw.out.cell 1;have y2':w6.cell? (w.heap.size+2,2)=I b:=dw.out.cell 2;have Mm:w6.cell? (w.heap.size+2,3)=I c:=dw.out.cell 3;have Nk:=XAA (show M6.cs[i]? =some x by rw [Y6.out.cs];exact HI.out);go_wp2_with (go_at_call 75;refine(Ye H6.out qd hk 4 b c Nk.out).mono ?_;rintro e w7 ⟨rfl,M7,h7,k7,a7,s7,x7⟩;have H7:=XAA (And.intro h7 (And.intro k7 (And.intro a7 (And.intro s7 x7))));clear h7 k7 a7 s7 x7);(first|go_end0|refine Xe ?_);obtain⟨h7,k7,a7,s7,x7⟩:=H7.out;refine⟨rfl,M7,h7,(dD.out.trans F6.out).trans k7,Y6.out.ax.trans a7,by rw [Y6.out.s] at s7;omega,⟨λK' a' c' i' r' x' h hx=>?_,λc' i' r' h=>?_⟩⟩
 .rw [HA.out] at h;injection h with h hr;injection h with h2;exact absurd h2 qf
 .rw [HA.out] at h;injection h with h hr;injection h with h2 h3 h4 h5 h6;have e:i=i':=by omega
  subst e;obtain⟨av,e6⟩:=E6.out;obtain⟨q1,q2,q3,q4,q5,q6,q7⟩:=x7 h5;have ef:M6.fr k= { M.fr k with av:=av,acts:=r } :=by rw [e6,wf_at]
  rw [ef] at q4 q5 q6 q7;exact⟨q1.trans Y6.out.cs,q2.trans Y6.out.T,q3.trans (by rw [e6]),by rw [q4,Y6.out.hs],q5.trans hr,by rw [q6,Y6.out.hs],q7⟩
theorem Xv(h:KM A w M)(hs:M.s<=28000)(hk:k<A.C)(b c:Int){n:Nat}(hy:M.hs[n]? =some y)(r:List Ac)(hA:(M.fr k).acts=⟨176,5,n,b,c⟩::r):Z 60 #[(A.kb,0),I k,.pointer (A.fb,k*12)] w (tq A M k w):=by
 have HY:=XAA hy;have hzb:M.cl (w.heap.size+2)=0:=h.new _ qd;obtain⟨g0,KH,cap0,o7,hcap0,vN,vS,-,-⟩:=h.kE hk hA;obtain⟨vw,-,-,-,-,f30,-⟩:=h.dt hk;rw [o7] at f30;have e1:=Bs;have e2:=x_;have e3:=Bq;have g1:¬r.length+1<=0:=qd
 have HC:=XAA h;have HA:=XAA hA;clear h hA o7;go_enter func60,ntmps60;go_upto_region 7 with fail
 refine bg (λw0 hw0=>?_);have H0:Hid (KM A w0 M):=XAA qei;have dD:Hid (KF [] M.cl M.cl w w0):=XAA (KF.below [] M.cl qbs);have HB:Hid (ak w0 (w.heap.size+2) 176 (bG 5 n b c)):=XAA (by
  rw [hw0]
  have:=ak.new ((w.alloc (.cells (bG 0 0 0 0) 157)).alloc (.cells (bG 0 0 0 0) 173)) 176 (bG 5 n b c)
  simp only [XAT] at this
  exact this)
 clear hw0 vN vS vw f30 hcap0 e1 e2 e3 g1;have y0:w0.cell? (w.heap.size+2,0)=I 5:=HB.out.cell 0;obtain⟨g,off,cap,hav,hcap,-,hg,hcl,hrow⟩:=H0.out.kE hk HA.out;obtain⟨cL,cj,-,-,-,f3,-⟩:=H0.out.dt hk;rw [hav] at f3;obtain⟨m,hm⟩:=Xq r.length;rw [hm] at f3 hcap hav;have mC:=cj (k*12+3);go_upto_region 15 with(refine sP qu _ qu g off m cap qu hcap ?_;intro off' iq)
 refine bg (λw6 hw6=>?_);obtain⟨M6,H6,F6,Y6,E6⟩:∃M6,Hid (KM A w6 M6)/\Hid (KF [] M.cl M6.cl w0 w6)/\Hid (Ay M M6 k r)/\Hid (∃av,M6=M.wf k { M.fr k with av:=av,acts:=r }):=qbn;have dw:=XAA (F6.out.keep HB.out hzb ql).1;have hs6:M6.s<=28000:=by rw [Y6.out.s];exact hs
 clear hw6 hav hcap hg hcl hrow iq f3 cj mC cL hm;have AW:=XAA (show M6.hs[n]? =some y by rw [Y6.out.hs];exact HY.out);have hnl:=lt_of_some AW.out;obtain⟨gh,RC,pw,hch,hrd⟩:=H6.out.hav hnl;have hr:=hrd n y AW.out;have q4:=hr.h4;have gO:=hr.lt;have k28:w6.cell? (A.kb,28)=some (.slice (gh,0) M6.hs.length RC):=H6.out.rd.k28.trans (XAK some pw);have a8:=H6.out.rd.lt;have y1':w6.cell? (w.heap.size+2,1)=some (nV n):=dw.out.cell 1;have b6:=dw.out.lt;have a1:¬(n:Int)<0:=qd
 have a2:¬M6.hs.length<=n:=XBU.2 hnl;clear hr hrd pw;rename World=>wz;(refine ba (wz.heap.size) (λhxc aA hxh hxn=>?_);(repeat (first|go_big_quiet_step (fail)|quiet_step (fail)));refine XAG ?_;clear hxc aA hxh hxn;intro w1 hb1 hz1 hc1 hf1);have H7:=XAA (H6.out.below hb1);have F7:Hid (KF [] M.cl M6.cl w w1):=XAA (((dD.out.trans F6.out)).trans (KF.below [] _ hb1));have hb7:=dw.out.below hb1;have adU:w1.cell? (w.heap.size+2,1)=some (nV n):=hb7.cell 1;have f11:=(H7.out.dt hk).f11;have cL:=(H7.out.dt hk).lt;have cj:=(H7.out.dt hk).frz (k*12+11);clear hc1 hf1 hb1 q4 gO k28 a8 y1' b6 a1 a2 hch hb7;cases ho:y.out with
 |true=>
  have HO:=XAA ho;clear ho f11 cL cj;go_wp2_with (first|(go_at_call 77;refine(JX H7.out AW.out).mono ?_;rintro e w8 ⟨B8,c8,m8,l8,f8,rfl,tZ,aC,h8,k8,IJ,hm2,-,-⟩;have H8:=XAA h8;have K8:=XAA k8;have O8:=XAA aC;have L8:=XAA tZ;have C8:=XAA IJ;clear h8 k8 aC tZ IJ)|(go_at_call 76;(refine(wk H8.out (by show M6.s<=30000;omega) hk l8 B8 c8 m8 L8.out (Row.gj O8.out) (by intro q hq;have:=C8.out q hq;show dn M6.cs.length (M6.hs.set n (gk y)).length M6.tn M6.G q;rw [XAk];exact this) qd).mono ?_);rintro e w9 ⟨rfl,c9,ye,h9,k9⟩;have H9:=XAA h9;have K9:=XAA k9;clear h9 k9));(first|go_end0|refine Xe ?_);exact⟨rfl,_,H9.out,(F7.out.trans K8.out).trans K9.out,Y6.out.ax.trans ⟨λj hj=>cP hj,(by show(aL _ k _ k).next=_;rw [b_];rfl),(by show(aL _ k _ k).busy=_;rw [b_];rfl),R,XAU _⟩,by show M6.s+1<=_;rw [Y6.out.s];omega,lZ.other HA.out qdn (.inr qdn)⟩
 |false=>
  have HO:=XAA ho;clear ho;rcases (by cases((M6.fr k).e==0)<;>simp:((M6.fr k).e==0)=true\/((M6.fr k).e==0)=false) with he|he
  .have HE:=XAA ((H7.out.gm k).fE hk 270);go_wp2;(first|go_end0|refine Xe ?_);exact⟨rfl,_,HE.out.km,F7.out.trans (HE.out.kf qf),Y6.out.ax.trans ⟨λj hj=>cP hj,qy,qx,R,XAB _⟩,by show M6.s<=_;rw [Y6.out.s];omega,lZ.other HA.out qdn (.inr qdn)⟩
  .go_wp2;(first|go_end0|refine Xe ?_);exact⟨R,_,H7.out,F7.out,Y6.out.ax,by rw [Y6.out.s];omega,lZ.other HA.out qdn (.inr qdn)⟩
theorem Xy(h:KM A w M)(hs:M.s<=28000)(hk:k<A.C)(K b c:Int)(hK:K≠4/\K≠5)(hi:M.cs[i]? =some x)(r:List Ac)(hA:(M.fr k).acts=⟨176,K,i,b,c⟩::r):Z 60 #[(A.kb,0),I k,.pointer (A.fb,k*12)] w (tq A M k w):=by
 have HI:=XAA hi;have HKK:=XAA hK;clear hK;have hzb:M.cl (w.heap.size+2)=0:=h.new _ qd;obtain⟨g0,KH,cap0,o7,hcap0,vN,vS,-,-⟩:=h.kE hk hA;obtain⟨vw,-,-,-,-,f30,-⟩:=h.dt hk;rw [o7] at f30;have e1:=Bs;have e2:=x_;have e3:=Bq;have g1:¬r.length+1<=0:=qd
 have HC:=XAA h;have HA:=XAA hA;clear h hA o7;go_enter func60,ntmps60;go_upto_region 7 with fail
 refine bg (λw0 hw0=>?_);have H0:Hid (KM A w0 M):=XAA qei;have dD:Hid (KF [] M.cl M.cl w w0):=XAA (KF.below [] M.cl qbs);have HB:Hid (ak w0 (w.heap.size+2) 176 (bG K i b c)):=XAA (by
  rw [hw0]
  have:=ak.new ((w.alloc (.cells (bG 0 0 0 0) 157)).alloc (.cells (bG 0 0 0 0) 173)) 176 (bG K i b c)
  simp only [XAT] at this
  exact this)
 clear hw0 vN vS vw f30 hcap0 e1 e2 e3 g1;have y0:w0.cell? (w.heap.size+2,0)=I K:=HB.out.cell 0;have b4:(K==4)=false:=by simpa using HKK.out.1
 have b5:(K==5)=false:=by simpa using HKK.out.2
 have y1:w0.cell? (w.heap.size+2,1)=some (nV i):=HB.out.cell 1;go_upto_region 9 with(go_at_call 78;refine(Yt H0.out qd HI.out).mono ?_;rintro e w4 ⟨q,M4,rfl,h4,k4,s4,z4⟩;have H4:=XAA h4;have K4:=XAA k4;have S4:=XAA s4;have Z4:=XAA z4;clear h4 k4 s4 z4;cases q)
 ·(first|go_end0|refine Xe ?_);exact⟨R,_,H4.out,dD.out.trans K4.out,Ax.same S4.out,by have:=Z4.out;omega,lZ.other HA.out qdn (.inr HKK.out.1)⟩
 .have EH:=XAA (show(M4.fr k).acts=⟨176,K,i,b,c⟩::r by rw [S4.out.fr];exact HA.out);obtain⟨g,off,cap,hav,hcap,-,hg,hcl,hrow⟩:=H4.out.kE hk EH.out;obtain⟨cL,cj,-,-,-,f3,-⟩:=H4.out.dt hk;rw [hav] at f3;obtain⟨m,hm⟩:=Xq r.length;rw [hm] at f3 hcap hav;have mC:=cj (k*12+3);have HG:=XAA (And.intro hav (And.intro hcl (And.intro hrow (And.intro hcap hm))));clear hav hcl hrow hm;go_wp2_with (refine sP qu _ qu g off m cap qu hcap ?_;intro off' iq);(first|go_end0|refine Xe ?_);obtain⟨q1,q2,q3,q4,q5⟩:=HG.out;obtain⟨M6,h1,h2,h3,-⟩:=H4.out.tail hk EH.out q1 q5 q4 q2 q3 iq;exact⟨R,M6,h1,(dD.out.trans K4.out).trans h2,(Ax.same S4.out).trans h3.ax,by rw [h3.s];have:=Z4.out;omega,lZ.other HA.out qdn (.inr HKK.out.1)⟩
theorem Xu(h:KM A w M)(hs:M.s<=28000)(hk:k<A.C)(hne:(M.fr k).acts≠ []):Z 60 #[(A.kb,0),I k,.pointer (A.fb,k*12)] w (tq A M k w):=by
 obtain⟨a,r,hA⟩:=XEr hne;have hok:=h.ok.ac k hk a (by rw [hA];exact XA1 ..);obtain⟨ty,K,x,y,z⟩:=a;rcases hok with⟨h1,-⟩|⟨h1,h2,h3⟩|⟨h1,h2,h3,h4⟩
 .dsimp only at h1;subst h1;exact Xw h hs hk K x y z r hA
 .dsimp only at h1 h2 h3;subst h1;obtain⟨i,rfl⟩:∃i:Nat,y=i:=⟨y.toNat,qd⟩;obtain⟨x',hx⟩:=lC (M:=M) (n:=i) qd;exact Xz h hs hk K x z hx r hA
 .dsimp only at h1 h2 h3 h4;subst h1;obtain⟨i,rfl⟩:∃i:Nat,x=i:=⟨x.toNat,qd⟩;by_cases h5:K=5
  .subst h5;have:=h3 rfl;exact Xv h hs hk y z (y:=M.hs[i]' qd) (XAO qd) r hA
  .obtain⟨x',hx⟩:=lC (M:=M) (n:=i) (by have:=h4 h5;omega);by_cases h6:K=4
   .subst h6;exact Xx h hs hk y z hx r hA
   .exact Xy h hs hk K y z ⟨h6,h5⟩ hx r hA
end
theorem WE:(prog.info? 4).map (λi=>(i.zero,i.size,i.bytes))=some (some (.bool false),1,1):=qh
section
variable{A:KA}{M M1 M2:KS}{w w' w2:World}{i k:Nat}{x y:Cc}
def Ot(A:KA)(M:KS)(w:World)(e:Ending)(w':World):Prop:=∃g:Nat,e=.returned (.slice (g,0) A.C A.C)/\lk w' g A.C (dI A M)/\Below w w w'
theorem Yl(h:KM A w M):Z 36 #[(A.kb,0)] w (Ot A M w):=by
 have k0:=h.rd.k0;have hc1:=h.ok.c1;have hc8:=h.ok.c8;have m1:=λv=>nZ (P:=prog) 102 4 (.bool false) 1 1 underlying102 WE .i64 .i64 A.C qd qd v;have HC:=XAA h;clear h;go_enter func36,ntmps36;go_wp2;obtain⟨w0,hw0⟩:=Xq (w.alloc (.cells (madeCells #[.bool false] A.C) 4));have hrow:lk w0 w.heap.size A.C (λ_=>false):=by
  have h1:=aG.jP (ak.new w 4 (madeCells #[.bool false] A.C));rw [hw0] at h1;have e:(madeCells #[.bool false] A.C).toList=(List.range A.C).map λ_=>Value.bool false:=by
   apply XA5;intro j;rw [XBO,XAa];by_cases hj:j<A.C
   .rw [ug hj qf,XBX hj];simp
   .rw [XAz qed,XAd qj];rfl
  rw [e] at h1;exact h1
 have hb0:Below w w w0:=qfq;rw [hw0];clear hw0 m1;go_loopw [4,13] (λ_ z wr=>∃i:Nat,z=I i/\i<=A.C/\lk wr w.heap.size A.C (λj=>decide (j<i) && dI A M j)/\Below w w wr) (λ_ z _=>A.C-(intOf z).toNat)
 case atStart=>exact⟨0,R,XAJ _,by simpa using hrow,hb0⟩
 case round=>
  obtain⟨i,rfl,hi,hr,hb⟩:=hrel;have HR:=XAA hr;have HB:=XAA hb;have HK:=XAA (HC.out.below hb);clear hr hb;by_cases hlt:i<A.C
  .have b1:(i:Int)<(A.C:Int):=by omega
   have b2:¬(i:Int)<0:=qd;have b3:¬A.C<=i:=qd;go_wp2_with (go_at_call 59;refine(Dr HK.out hlt).mono ?_;rintro e w3 ⟨rfl,hb3⟩;have hr3:lk w3 w.heap.size A.C (λj=>decide (j<i) && dI A M j):=HR.out.below hb3;have hg3:w3.cell? (w.heap.size,i)=some (.bool (decide (i<i) && dI A M i)):=(aG.cell hr3 i _ qeb);have hf3:=aG.frz hr3 i;have HR3:=XAA hr3;have HB3:=XAA hb3;clear hr3 hb3);go_roundw
   case rel=>
    refine⟨i+1,qbf,hlt,?_,(HB.out.trans (HB3.out.mono HB.out.size)).setCell (p:=⟨w.heap.size,i,none⟩) (XAB _) _⟩;have h4:=aG.set HR3.out i (.bool (dI A M i));have e:((List.range A.C).map λj=>Value.bool (decide (j<i) && dI A M j)).set i (.bool (dI A M i))=(List.range A.C).map λj=>Value.bool (decide (j<i+1) && dI A M j):=by
     apply XA5;intro j;rw [XBm,XAa,XAa];by_cases hj:j<A.C
     .rw [XBX hj];by_cases e:i=j
      .subst e;simp [hj]
      .rw [XAD e];have:decide (j<i)=decide (j<i+1):=by rw [XEc];omega
       simp [this]
     .rw [XAd qj];simp;omega
    rw [e] at h4;exact h4
   case measure=>simp [intOf];omega
  .obtain rfl:i=A.C:=by omega
   go_wp2;go_ret;refine⟨w.heap.size,R,?_,HB.out⟩;have e:((List.range A.C).map λj=>Value.bool (decide (j<A.C) && dI A M j))=(List.range A.C).map λj=>Value.bool (dI A M j):=by apply List.map_congr_left;intro j hj;simp at hj;simp [hj]
   have:=HR.out;unfold lk at this ⊢;rw [e] at this;exact this
end
section
variable{A:KA}{M M1 M2:KS}{w w' w2:World}{i k:Nat}{x y:Cc}
theorem X4(h:KM A w M)(S:List (Nat × Nat))(hS:Seg M.T 0 A.ae.n S):Z 6 #[(A.kb,0)] w λe w'=>e=.returned (nV (dJ (jb M.T) S+(bC A.ae.C M.L).length))/\Below w w w':=by
 have k25:=h.rd.k25;have HC:=XAA h;clear h;go_enter func6,ntmps6;go_wp2_with (first|(go_at_call 12;refine Xr (pz HC.out) ?_)|(go_at_call 14;refine(acu _ HC.out.zn S hS).mono ?_;rintro e w1 ⟨rfl,hb⟩));go_ret;exact⟨R,hb⟩
def Ow(M:KS)(N:List Nat)(S:List (Nat × Nat))(n p:Nat)(w:World)(e:Ending)(w':World):Prop:=
 Below w w w'/\∃(a b:Int)(is:Bool),e=.returned (.tuple #[I a,I b,.bool is])/\(p<n->is=iB M.T N S p)
theorem Yp(h:KM A w M)(S:List (Nat × Nat))(hS:Seg M.T 0 A.ae.n S)(p:Nat)(hp:p<=100000):Z 5 #[(A.kb,0),I p] w (Ow M (bC A.ae.C M.L) S A.ae.n p w):=by
 have k25:=h.rd.k25;have HC:=XAA h;have HP:Hid (dC (p:Int)):=XAA (gY qd qd);clear h;go_enter func5,ntmps5;go_wp2_with (first|(go_at_call 12;refine Xr (pz HC.out) ?_)|(go_at_call 13;refine(Mr _ HC.out.zn S hS (p:Int) HP.out).mono ?_;rintro e w1 ⟨hb,⟨rfl,hn⟩|⟨i,h,hpi,hi,hh,ht,c,hc,rfl⟩⟩;all_goals (have HB:=XAA hb;clear hb)))
 .go_ret3;refine⟨bB HB.out qa,0,0,false,R,λhlt=>(hn p R hlt).symm⟩
 .subst hh;refine bg (λW hW=>?_);have hx:=ak.new w1 42 #[I (eC S i),I (M.T (eC S i)).o,I c];rw [<-hW] at hx;have hb2:Below w1 w1 W:=by rw [hW];exact(XAC _ _).alloc (XAB _) _
  have HB2:=XAA (bB HB.out hb2);have x0:=hx.cell 0;have x2:=hx.cell 2;have xlt:=hx.lt;have x0:W.cell? (w1.heap.size,0)=I (eC S i):=x0;have x2:W.cell? (w1.heap.size,2)=I c:=x2;clear hW hx hb2;obtain⟨wb,hwb⟩:∃x:World,x=w1:=⟨_,R⟩;subst hwb;(refine ba (W.heap.size) (λhxc aA hxh hxn=>?_);(repeat (first|go_big_quiet_step (fail)|quiet_step (fail)));refine XAG ?_;clear hxc aA hxh hxn;intro w1 hb1 hz1 hc1 hf1);go_wp2;go_ret3;have e:i=p:=qd
  subst e;exact⟨bB HB2.out hb1,_,_,true,R,λ_=>ht.symm⟩
end
end Go.Proofs.YtedefgjfgdcfdaaGreatDoor
