/- Walks and laws for TopPages. -/
import Derived.Test.YtedefgjfgdcfdaaGreatDoorQ33
import Derived.Test.YtedefgjfgdcfdaaGreatDoorQ34
import Derived.Test.YtedefgjfgdcfdaaGreatDoorQ35
namespace Go.Proofs.YtedefgjfgdcfdaaGreatDoor
open Go.RowKit Go.Proofs.Tryz
set_option maxRecDepth 100000
set_option maxHeartbeats 4000000
section
variable{A:KA}{M M1 M2:KS}{w w' w2:World}{i k p nx:Nat}{x:Cc}{y:Cl}{aM:Int}{f:Fm}
theorem KM.GC(h:KM A w M)(hk:k<A.C){n:Nat}(hy:(A.K k)[n]? =some y):∃g c,w.cell? (A.aK,k)=some (.slice (some ⟨g,0,none⟩) (A.K k).length c)/\g<w.heap.size/\w.cell? ⟨g,n*4,none⟩=I y.op/\w.cell? ⟨g,n*4+1,none⟩=I y.a/\w.cell? (g,n*4+2)=I y.b/\w.cell? (g,n*4+3)=I y.c:=by
 obtain⟨B,c,hv,-,hB⟩:=h.calls hk;have hown:=(h.sc.2.2 k hk).1;obtain⟨j,hj⟩:∃j,(A.K k).length=j+1:=⟨(A.K k).length-1,by have:=lt_of_some hy;omega⟩;have hown':=hown;rw [hj] at hown';obtain⟨g,cap,e⟩:=ownsRow_succ hown';rw [<-hj] at e;rw [e] at hown;have hr:=nW hown;have hc:∀j,j<4->∀u,(dT y)[j]? =some u->w.cell? (g,n*4+j)=some u:=λj hj u hu=>hr.cell _ _ ((yA (m:=4) (f:=dT) (λ_=>rfl) hy hj).trans hu);rw [<-hv,e] at hB;exact⟨g,cap,hB,hr.lt,hc 0 qf _ R,hc 1 qf _ R,hc 2 qf _ R,hc 3 qf _ R⟩
def Ar(A:KA)(M M3:KS)(y:Cl)(f:Fm):Prop:=
 (y.op=0->M.cs= []->(so (1+y.b % 1024) 8 (bits .and .i64 (y.c % 8) 2 !=0)).2=0->f.e=0/\f.acts= []/\f.hs= []/\M3.hs=M.hs/\M3.T=M.T/\M3.gr=M.gr/\∃x,M3.cs= [x]/\A9 A.C 0 ⟨1+y.b % 1024,8,y.c % 8⟩ x)/\
 (y.op=1->∀x,M.cs= [x]->x.live=true->y.a=0->y.b=0->M3.cs=M.cs/\M3.hs=M.hs/\M3.T=M.T/\M3.gr=M.gr/\f.acts= [⟨173,3,1,0,0⟩,⟨176,4,0,0,0⟩]/\f.e=0/\f.hs= [])/\
 (y.op=2->∀z,M.hs= [z]->z.out=true->z.gr=0->M3.cs=M.cs/\M3.hs= [gk z]/\M3.T=M.T/\M3.gr=M.gr/\f.e=0/\f.hs= [0]/\∃u,f.acts= [⟨173,3,2,z.ca,u⟩]/\(0<=z.sl->z.sl<=1000->0<=z.ob->z.ob<=1000->u=16*z.sl+z.ob))
theorem ky.um(h2:KM A w2 M2)(hp:Fp M.cl w p (gM nx aM))(kf:KF [] M.cl M2.cl w w2)(h1:M2.fr=M.fr)(h3:M2.ds=M.ds)(h4:M2.s<=M.s+8)(h5:M2.hs.length=M.hs.length)(er:Int):ky A M M2 p nx w (w2.setCell (p,11) (I er)) { gM nx aM with e:=er } :=by
 obtain⟨e1,e2,e3⟩:=Fp.fe h2 (hp.kf kf) er;exact⟨e1,e2,(KF.then_ (KF.refl _ _ _) kf).trans e3,R,R,λa ha=>qdh,XAJ _,XAJ _,λh hh=>qjk,h1,h3,h4,h5,λg hg=>qce,λg hg=>qce⟩
def N9(A:KA)(M:KS)(k:Nat)(y:Cl)(w:World)(e:Ending)(w':World):Prop:=
 e=.returned (.tuple #[])/\∃M3 M4 f,KM A w' M4/\KF [] M.cl M4.cl w w'/\M4.fr=aL M.fr k f/\f.next=(M.fr k).next/\f.busy=true/\M4.ds=M.ds/\M4.s<=M.s+9/\Ar A M M3 y f/\M4.cs=M3.cs/\M4.hs=M3.hs/\M4.T=M3.T/\M4.gr=M3.gr
theorem XF(h:KM A w M)(hs:M.s<=29000)(hk:k<A.C)(hy:(A.K k)[(M.fr k).next]? =some y):Z 61 #[(A.kb,0),I k] w (N9 A M k y w):=by
 have HC:=XAA h;obtain⟨g,c,hv,gO,u0,u1,u2,u3⟩:=h.GC hk hy;obtain⟨a8,-,k0,k2,-,-,-,-,-,-,-,-,k29,-,-⟩:=h.rd;have k30:=h.rd.k31;obtain⟨cL,cj,f0,-,f2,-⟩:=h.dt hk;have hcl:=h.sc.1.lt;have hc8:=h.ok.c8;have hnl:=lt_of_some hy;have Wd:=h.ok.kl k hk;obtain⟨sn,hnx⟩:=Xq ((M.fr k).next)
 obtain⟨m,hm⟩:=Xq ((A.K k).length);rw [hnx] at f0 u0 u1 u2 u3 hnl;rw [hm] at hv hnl Wd;have fg:=XAA hnx;have HM:=XAA hm;have HY:=XAA hy;have NB:=XAA h.new;have a1:¬(k:Int)<0:=qd
 have a2:¬A.C<=k:=qd;have a3:¬(sn:Int)<0:=qd;have a4:¬m<=sn:=qd;clear h hnx hm hy;go_enter func61,ntmps61;go_upto_region 1 with fail
 go_region;go_upto_region 2 with fail
 go_region;go_upto_region 3 with fail
 refine bg (λW1 hW1=>?_);have hcb:ak W1 w.heap.size 63 #[I y.op,I y.a,I y.b,I y.c]:=by rw [hW1];exact(ak.new w _ _).alloc _
 have hfb:ak W1 (w.heap.size+1) 159 (bf (gM sn M.now)).toArray:=by rw [hW1];exact ak.new2 w _ _ _
 have HB1:Hid (Below w w W1):=XAA (by rw [hW1];exact(((XAC _ _).alloc (XAB _) _).alloc ql _).drew.drew);have H1:=XAA (HC.out.below HB1.out);have fJ:Hid (Fp M.cl W1 (w.heap.size+1) (gM sn M.now)):=XAA ⟨hfb,NB.out _ qd,Own.nil _ _ _ _ _,Own.nil _ _ _ _ _⟩;have y0:W1.cell? (w.heap.size,0)=I y.op:=hcb.cell 0;have y1:W1.cell? (w.heap.size,1)=I y.a:=hcb.cell 1;have y2:W1.cell? (w.heap.size,2)=I y.b:=hcb.cell 2;have y3:W1.cell? (w.heap.size,3)=I y.c:=hcb.cell 3;have ylt:=hcb.lt;have k26:=H1.out.rd.k26;have Dk:=H1.out.rd.lt;have p11:W1.cell? (w.heap.size+1,11)=I 0:=hfb.cell 11;have cX:=hfb.frozen 11;have b6:=hfb.lt;obtain⟨p,hp⟩:=Xq (w.heap.size+1);have NR:=XAA hp;rw [hp] at fJ p11 cX b6 ⊢;clear hW1 hcb hfb hv u0 u1 u2 u3 k0 k2 k29 k30 f0 f2 cj a1 a2 a3 a4 hp;go_upto_block 0 with fail
 go_cut [] from 44 to 116 (λwx=>∃M3 f,ky A M M3 p sn W1 wx f/\Ar A M M3 y f)
 case first=>
  rcases (by cases(y.op==0)<;>simp:(y.op==0)=true\/(y.op==0)=false) with q0|q0
  .go_wp2_with (go_at_call 79;(refine(X8 H1.out y.op y.a y.b y.c).mono ?_);rintro e w5 ⟨er,M5,rfl,h5,k5,s5,x5⟩;have S5:=XAA s5;have X5:=XAA x5;clear s5 x5;have H5:=XAA h5;have K5:=XAA (k5);have bJ:=fJ.out.kf K5.out;have wG:w5.cell? (p,11)=I 0:=bJ.blk.cell 11;have lS:=bJ.blk.frozen 11;have wN:=bJ.blk.lt;clear h5 bJ);go_meet;exact⟨_,_,ky.um H5.out fJ.out K5.out S5.out.fr S5.out.ds (by rw [S5.out.s];omega) (by rw [S5.out.hs]) er,λ_ h0 hof=>(by obtain⟨h6,x6,h7,h8⟩:=X5.out h0 hof;exact⟨h6,R,R,S5.out.hs,S5.out.T,S5.out.gr,x6,h7,h8⟩),λh=>absurd h qio,λh=>absurd h qio⟩
  rcases (by cases(y.op==1)<;>simp:(y.op==1)=true\/(y.op==1)=false) with q1|q1
  .go_wp2_with (go_at_call 80;(refine(Ds H1.out fJ.out y.op y.a y.b y.c).mono ?_);rintro e w5 ⟨rfl,M5,f5,t5,x5⟩;have T5:=XAA t5;have X5:=XAA x5;clear t5 x5);go_meet;exact⟨M5,f5,T5.out,λh=>absurd h qcs,λh x hx hl ha hb=>X5.out x hx hl h ha hb,λh=>absurd h (by have h9:y.op=1:=qct;omega)⟩
  rcases (by cases(y.op==3)<;>simp:(y.op==3)=true\/(y.op==3)=false) with q3|q3
  .go_wp2_with (go_at_call 80;(refine(Ds H1.out fJ.out y.op y.a y.b y.c).mono ?_);rintro e w5 ⟨rfl,M5,f5,t5,x5⟩;have T5:=XAA t5;have X5:=XAA x5;clear t5 x5);go_meet;exact⟨M5,f5,T5.out,λh=>absurd h qcs,λh x hx hl ha hb=>X5.out x hx hl h ha hb,λh=>absurd h (by have h9:y.op=3:=(by simpa using q3);omega)⟩
  rcases (by cases(y.op==12)<;>simp:(y.op==12)=true\/(y.op==12)=false) with q12|q12
  .go_wp2_with (go_at_call 80;(refine(Ds H1.out fJ.out y.op y.a y.b y.c).mono ?_);rintro e w5 ⟨rfl,M5,f5,t5,x5⟩;have T5:=XAA t5;have X5:=XAA x5;clear t5 x5);go_meet;exact⟨M5,f5,T5.out,λh=>absurd h qcs,λh x hx hl ha hb=>X5.out x hx hl h ha hb,λh=>absurd h (by have h9:y.op=12:=(by simpa using q12);omega)⟩
  rcases (by cases(y.op==2)<;>simp:(y.op==2)=true\/(y.op==2)=false) with q2|q2
  .go_wp2_with (go_at_call 81;(refine(Dn H1.out qd fJ.out y.op y.a y.b y.c).mono ?_);rintro e w5 ⟨rfl,M5,f5,t5,x5⟩;have T5:=XAA t5;have X5:=XAA x5;clear t5 x5);go_meet;exact⟨M5,f5,T5.out,λh=>absurd h qcs,λh=>absurd h qct,λh z hz ho hg=>X5.out h z hz ho hg⟩
  rcases (by cases(y.op==13)<;>simp:(y.op==13)=true\/(y.op==13)=false) with q13|q13
  .go_wp2_with (go_at_call 81;(refine(Dn H1.out qd fJ.out y.op y.a y.b y.c).mono ?_);rintro e w5 ⟨rfl,M5,f5,t5,x5⟩;have T5:=XAA t5;have X5:=XAA x5;clear t5 x5);go_meet;exact⟨M5,f5,T5.out,λh=>absurd h qcs,λh=>absurd h qct,λh z hz ho hg=>X5.out h z hz ho hg⟩
  rcases (by cases(y.op==4)<;>simp:(y.op==4)=true\/(y.op==4)=false) with q4|q4
  .go_wp2_with (go_at_call 81;(refine(Dn H1.out qd fJ.out y.op y.a y.b y.c).mono ?_);rintro e w5 ⟨rfl,M5,f5,t5,x5⟩;have T5:=XAA t5;have X5:=XAA x5;clear t5 x5);go_meet;exact⟨M5,f5,T5.out,λh=>absurd h qcs,λh=>absurd h qct,λh z hz ho hg=>X5.out h z hz ho hg⟩
  rcases (by cases(y.op==5)<;>simp:(y.op==5)=true\/(y.op==5)=false) with q5|q5
  .go_wp2_with (go_at_call 82;(refine(X7 H1.out hk).mono ?_);rintro e w5 ⟨er,c5,rfl,h5⟩;have H5:=XAA h5;have K5:=XAA (h5.kf qf);have bJ:=fJ.out.kf K5.out;have wG:w5.cell? (p,11)=I 0:=bJ.blk.cell 11;have lS:=bJ.blk.frozen 11;have wN:=bJ.blk.lt;clear h5 bJ);go_meet;exact⟨_,_,ky.um H5.out.km fJ.out K5.out R R qeo R er,λh=>absurd h qcs,λh=>absurd h qct,λh=>absurd h qcu⟩
  rcases (by cases(y.op==6)<;>simp:(y.op==6)=true\/(y.op==6)=false) with q6|q6
  .go_wp2_with (go_at_call 83;(refine(Yr H1.out hk).mono ?_);rintro e w5 ⟨er,c5,rfl,h5⟩;have H5:=XAA h5;have K5:=XAA (h5.kf qf);have bJ:=fJ.out.kf K5.out;have wG:w5.cell? (p,11)=I 0:=bJ.blk.cell 11;have lS:=bJ.blk.frozen 11;have wN:=bJ.blk.lt;clear h5 bJ);go_meet;exact⟨_,_,ky.um H5.out.km fJ.out K5.out R R qeo R er,λh=>absurd h qcs,λh=>absurd h qct,λh=>absurd h qcu⟩
  rcases (by cases(y.op==9)<;>simp:(y.op==9)=true\/(y.op==9)=false) with q9|q9
  .go_wp2_with (go_at_call 63;(refine(yZ H1.out qd hk).mono ?_);rintro e w5 ⟨er,c5,rfl,h5⟩;have H5:=XAA h5;have K5:=XAA (h5.kf qf);have bJ:=fJ.out.kf K5.out;have wG:w5.cell? (p,11)=I 0:=bJ.blk.cell 11;have lS:=bJ.blk.frozen 11;have wN:=bJ.blk.lt;clear h5 bJ);go_meet;exact⟨_,_,ky.um H5.out.km fJ.out K5.out R R (by show M.s+1<=_;omega) R er,λh=>absurd h qcs,λh=>absurd h qct,λh=>absurd h qcu⟩
  rcases (by cases(y.op==10)<;>simp:(y.op==10)=true\/(y.op==10)=false) with q10|q10
  .go_wp2_with (go_at_call 84;(refine(X0 H1.out y.op y.a y.b y.c).mono ?_);rintro e w5 ⟨er,M5,rfl,h5,k5,s5,t5⟩;have S5:=XAA s5;have T5:=XAA t5;clear s5 t5;have H5:=XAA h5;have K5:=XAA (k5);have bJ:=fJ.out.kf K5.out;have wG:w5.cell? (p,11)=I 0:=bJ.blk.cell 11;have lS:=bJ.blk.frozen 11;have wN:=bJ.blk.lt;clear h5 bJ);go_meet;exact⟨_,_,ky.um H5.out fJ.out K5.out S5.out.fr S5.out.ds (by have:=T5.out;omega) S5.out.hs er,λh=>absurd h qcs,λh=>absurd h qct,λh=>absurd h qcu⟩
  rcases (by cases(y.op==11)<;>simp:(y.op==11)=true\/(y.op==11)=false) with q11|q11
  .go_wp2_with (go_at_call 85;(refine(Yb H1.out qd y.op y.a y.b y.c).mono ?_);rintro e w5 ⟨er,M5,rfl,h5,k5,s5,t5⟩;have S5:=XAA s5;have T5:=XAA t5;clear s5 t5;have H5:=XAA h5;have K5:=XAA (k5);have bJ:=fJ.out.kf K5.out;have wG:w5.cell? (p,11)=I 0:=bJ.blk.cell 11;have lS:=bJ.blk.frozen 11;have wN:=bJ.blk.lt;clear h5 bJ);go_meet;exact⟨_,_,ky.um H5.out fJ.out K5.out S5.out.fr S5.out.ds (by have:=T5.out;omega) S5.out.hs er,λh=>absurd h qcs,λh=>absurd h qct,λh=>absurd h qcu⟩
  go_wp2_with (go_at_call 86;(refine(XV H1.out qd fJ.out y.op y.a y.b y.c).mono ?_);rintro e w5 ⟨rfl,M5,f5,t5⟩;have T5:=XAA t5;clear t5);go_meet;exact⟨M5,f5,T5.out,λh=>absurd h qcs,λh=>absurd h qct,λh=>absurd h qcu⟩
 case rest=>
  obtain⟨M3,f,t3,x3⟩:=hcut;have T3:=XAA t3;have X3:=XAA x3;have k29:=t3.km.rd.k29;have a8:=t3.km.rd.lt;obtain⟨cL,cj,f0,f1,f2,f3,f4,f5,f6,f7,f8,f9,f10,f11⟩:=t3.km.dt hk;obtain⟨B1,c1,hav,-⟩:=Own.slice t3.fp.av;obtain⟨B2,c2,gS,-⟩:=Own.slice t3.fp.hv;obtain⟨n1,hn1⟩:=Xq f.acts.length;obtain⟨n2,hn2⟩:=Xq f.hs.length;rw [hn1] at hav;rw [hn2] at gS;have HST:Hid (kK wc A.fb k f=kK wc A.fb k { f with av:=.slice B1 n1 c1,hv:=.slice B2 n2 c2 }):=XAA (by rw [<-hav,<-gS]);have b6:=t3.fp.blk.lt;have p0:wc.cell? (p,0)=some (nV f.next):=t3.fp.blk.cell 0;have p1:wc.cell? (p,1)=I f.aM:=t3.fp.blk.cell 1;have p2:wc.cell? (p,2)=some (.bool f.busy):=t3.fp.blk.cell 2;have p3:wc.cell? (p,3)=some (.slice B1 n1 c1):=(t3.fp.blk.cell 3).trans (XAK some hav);have p4:wc.cell? (p,4)=I f.ai:=t3.fp.blk.cell 4;have p5:wc.cell? (p,5)=I f.aq:=t3.fp.blk.cell 5;have p6:wc.cell? (p,6)=I f.pK:=t3.fp.blk.cell 6;have p7:wc.cell? (p,7)=I f.pA:=t3.fp.blk.cell 7;have p8:wc.cell? (p,8)=I f.pB:=t3.fp.blk.cell 8;have p9:wc.cell? (p,9)=I f.pC:=t3.fp.blk.cell 9;have p10:wc.cell? (p,10)=some (.slice B2 n2 c2):=(t3.fp.blk.cell 10).trans (XAK some gS);have p11:wc.cell? (p,11)=I f.e:=t3.fp.blk.cell 11;have a1:¬(k:Int)<0:=qd
  have a2:¬A.C<=k:=qd;clear t3 x3 hav gS hn1 hn2;go_wp2;go_region;(first|go_end0|refine Xe ?_);have e:=HST.out;have h3:=T3.out;have hP:=NR.out;have hb1:=HB1.out.size;have hm:Md M3.cl [10] wc (kK wc A.fb k f):=If (Md.refl _ _ _) (λ_=>by rw [h3.km.fr.2];simp) f;obtain⟨c9,h9,k9⟩:=(h3.km.more (s':=M3.s+1) qd).Un hk h3.fp ⟨h3.ac,by have:=h3.al;show _<=30*(M3.s+1);omega,h3.hh,by have:=h3.hl;show _<=30*(M3.s+1);omega,λ_=>by rw [h3.nx,HM.out];exact hnl⟩ hm (Ig h3.km.fr.1 hk f);rw [e] at h9 k9;have k1:=((KF.below [] M.cl HB1.out).jZ h3.kf λq hq hlt=>qka).jZ k9 λq hq hlt=>(by
   simp at hq
   rcases hq with hq|hq
   .have:=h3.new.1 q hq;omega
   .have:=h3.new.2 q hq;omega)
  unfold kK at h9 k1;dsimp only at h9 k1;exact⟨R,M3,_,f,h9.drew,k1.trans (KF.below [] _ (XAC _ _).drew),by show aL M3.fr k f=_;rw [h3.fr],by rw [h3.nx,fg.out],h3.bu,h3.ds,by show M3.s+1<=_;have:=h3.s;omega,X3.out,R,R,R,R⟩
end
structure Bz(A:KA)(M:KS):Prop where
 ac:∀i,i<A.C->(M.fr i).busy=true->(M.fr i).acts≠ []
 dl:∀d∈M.ds,d.hs.length<=1000000
def gI(G:Gr):Prop:=∀j,G.L j= []
theorem gI.quiet{G:Gr}(h:gI G)(k:Nat):gI (fR G k).1:=λj=>by rw [(Lh G k).2.2];exact h j
theorem gI.poll{G:Gr}(h:gI G)(k:Nat):gI (sv G k)/\polled G k= []:=by
 refine⟨λj=>?_,?_⟩
 .show cT G.L k ((G.L k).drop (fZ G.ag (G.L k))) j= [];unfold cT;split
  .rw [h k];exact List.drop_nil
  .exact h j
 .unfold polled;rw [h k,List.take_nil];rfl
section
variable{A:KA}{M M1 M2:KS}{w w' w2 w3 w5:World}{k g cap n nx:Nat}{v:Value}{d:Dd}
structure At(A:KA)(M:KS)(d:Dd)(w:World)(v:Value)(w5:World):Prop where
 md:Md M.cl [1,11] w w5
 kb:ak w5 A.kb 58 (kR A { M with dv:=v })
 own:w5.ownsRow 0 107 6 v (M.ds.length+1) (M.ds.flatMap f_++f_ d)
 q:∀g,v.ownBlock=some g->M.dv.ownBlock=some g\/w.heap.size<=g
theorem KM.SF(h:KM A w M)(d:Dd){wa:World}(fu:Below w w wa)(en:M.ds.length=n)(ho3:w3.ownsRow 0 107 6 (.slice (g,0) (n+1) cap) (n+1) (M.ds.flatMap f_++f_ d))(hg:wa.grownBy w3 M.dv.ownBlock)(hq:some g=M.dv.ownBlock\/g=wa.heap.size):
  At A M d w (.slice (g,0) (n+1) cap) (w3.setCell (A.kb,30) (.slice (g,0) (n+1) cap)):=by
 subst en;have hds:=h.ds.1;have hsz:=fu.size;have hm:Md M.cl [1,11] w w3:=(Md.of_below M.cl [1,11] fu).grown hg λg' hg' _=>by rw [(hds.2 g' hg').2];simp
 have hm2:=hm.set (g:=A.kb) (λ_=>by rw [h.k.2];simp) 30 (.slice (g,0) (M.ds.length+1) cap);have hkl:=h.k.1.lt;have hk3:ak w3 A.kb 58 (kR A M):=((hg.block A.kb qd λe=>by have:=(hds.2 _ e.symm).2;rw [h.k.2] at this;cases this).trans (fu.block A.kb hkl)).trans h.k.1;have hkb:=hk3.aJ 30 (.slice (some ⟨g,0,none⟩) (M.ds.length+1) cap);have hgk:g≠A.kb:=λe=>own_ne ho3 hk3 qf qjp;refine⟨hm2,hkb,cM ho3 λg' hg'=>XAN w3 _ _ g' qex,λg' hg'=>?_⟩;have e:g=g':=qbg
 subst e;rcases hq with e1|e1
 .exact .inl e1.symm
 .exact .inr qd
theorem KM.SG(h:KM A w M)(hk:k<A.C)(H:At A M d w v w5)(hd:d.hv=(M.fr k).hv)(hds:d.hs=(M.fr k).hs)(hn:M.ds.length+1<=30*M.s)(nx:Nat):
  ∃c2,KM A (kK w5 A.fb k (dV nx)) { M with cl:=c2,dv:=v,ds:=M.ds++ [d],fr:=aL M.fr k (dV nx) } /\KF [] M.cl c2 w (kK w5 A.fb k (dV nx)):=by
 have hf:=h.fr.1.lt;have hne:A.kb≠A.fb:=λe=>by have:=h.k.2;rw [e,h.fr.2] at this;cases this
 exact h.did hk d hd hds hn nx (If (H.md.more ql) (λ_=>by rw [h.fr.2];simp) _) ((Ie _ _ _ _ hne).trans H.kb) (cM H.own λg hg=>Ie _ _ _ _ λe=>by
  rcases H.q g hg with e1|e1
  .have:=(h.ds.1.2 _ e1).2;rw [e,h.fr.2] at this;cases this
  .omega) H.q (Ig (H.md.row h.fr.1 (by rw [h.fr.2];decide)) hk _)
structure sS(M1 M':KS)(k:Nat):Prop where
 go:(M1.fr k).acts≠ []->M'=M1
 en:(M1.fr k).acts= []->M'.fr=aL M1.fr k (dV ((M1.fr k).next+1))/\M'.hs=M1.hs/\M'.ds.length=M1.ds.length+1/\(gI M1.gr->gI M'.gr/\M'.T=M1.T/\M'.cs=M1.cs)
structure u_(A:KA)(M M1:KS)(k:Nat):Prop where
 fr:∀j,j≠k->M1.fr j=M.fr j
 nx:(M1.fr k).next=(M.fr k).next
 bu:(M1.fr k).busy=true
 ds:M1.ds=M.ds
 s:M1.s<=M.s+10
 ac:(M.fr k).busy=true->∃v,lZ A { M with now:=v } M1 k
 be:(M.fr k).busy=false->∃y M3 f v,(A.K k)[(M.fr k).next]? =some y/\Ar A { M with now:=v } M3 y f/\M1.fr k=f/\M1.cs=M3.cs/\M1.hs=M3.hs/\M1.T=M3.T/\M1.gr=M3.gr
def Ou(A:KA)(M:KS)(k:Nat)(w:World)(e:Ending)(w':World):Prop:=
 e=.returned (I 0)/\∃M1 M',KM A w' M'/\KF [] M.cl M'.cl w w'/\Bz A M'/\M'.s<=M.s+15/\u_ A M M1 k/\sS M1 M' k
theorem WI:(prog.info? 107).map (λi=>(i.zero,i.size,i.bytes))=some (some (.agg #[I 0,I 0,I 0,I 0,I 0,.slice none 0 0]),6,64):=qh
theorem Yo(h:KM A w M)(hs:M.s<=27000)(hk:k<A.C)(hz:Bz A M)(hr:dI A M k=true):Z 37 #[(A.kb,0),I k] w (Ou A M k w):=by
 have HC:=XAA h;obtain⟨a8,lL,k0,-,-,-,-,-,-,-,-,-,k29,-,k31⟩:=h.rd;have Xj:=lL 31;have hcl:=h.fr.1.lt;have hc8:=h.ok.c8;have a1:¬(k:Int)<0:=qd
 have a2:¬(A.C:Int)<=(k:Int):=qd;have a3:¬A.C<=k:=qd;have Wm:=XAA (h.KQ (wrap64 (M.now+1)));have HR:=XAA hr;have HZ:=XAA hz;have HN:=XAA (pz h);have AP:=XAA (Dr h hk);have fg:Hid ((M.fr k).busy=false->(M.fr k).next<(A.K k).length):=XAA λhb=>by have:=hr;unfold dI at this;rw [hb] at this;simpa using this
 rw [hr] at AP;clear h hr hz lL;go_enter func37,ntmps37;go_upto_region 7 with(first|(go_at_call 12;refine HN.out.mono ?_;rintro e w0 ⟨rfl,hw0⟩;replace hw0:=hw0.symm;subst hw0)|(go_at_call 59;refine AP.out.mono ?_;rintro e wr ⟨rfl,hbr⟩;have iF:=XAA hbr;clear hbr))
 have H0:=XAA (HC.out.below iF.out);have WW:wr.cell? (A.kb,31)=some (I M.now):=H0.out.rd.k31;have Xm:=H0.out.rd.frz 31;have Dj:=H0.out.rd.lt;have vV:=H0.out.KQ (wrap64 (M.now+1));clear k0 k29 k31 Xj a8 hcl Wm HN AP;go_upto_region 8 with fail
 refine bg (λW1 hW1=>?_);rw [<-hW1] at vV;obtain⟨v,hv⟩:=Xq (wrap64 (M.now+1));rw [hv] at vV;have H1:=XAA vV.km;have F1:Hid (KF [] M.cl M.cl w W1):=XAA ((KF.below [] M.cl iF.out).trans (vV.kf qf));clear hW1 vV hv WW Xm Dj iF;have k29:W1.cell? (A.kb,29)=some (.slice (A.fb,0) A.C A.C):=H1.out.rd.k29;have a8:=H1.out.rd.lt;have f2:W1.cell? (A.fb,k*12+2)=some (.bool (M.fr k).busy):=(H1.out.dt hk).f2;have cL:=(H1.out.dt hk).lt;obtain⟨bu,hbu⟩:=Xq ((M.fr k).busy);rw [hbu] at f2;have uM:=XAA hbu;clear hbu
 go_upto_if 43 with fail
 go_cut [] from 44 to 50 (λwx=>∃M1,KM A wx M1/\KF [] M.cl M1.cl w wx/\u_ A M M1 k)
 case first=>
  cases bu with
  |true=>
   have HA:=XAA (Xu H1.out qeo hk (HZ.out.ac k hk uM.out));go_wp2_with (go_at_call 60;refine HA.out.mono ?_;rintro e w5 ⟨rfl,M1,h1,k1,a1,s1,x1⟩;have H5:=XAA (And.intro h1 (And.intro k1 (And.intro a1 (And.intro s1 x1))));clear h1 k1 a1 s1 x1);go_meet;obtain⟨h1,k1,a1,s1,x1⟩:=H5.out;exact⟨M1,h1,F1.out.trans k1,a1.fr,a1.nx,a1.bu.trans uM.out,a1.ds,s1,λ_=>⟨v,x1⟩,λh=>by rw [uM.out] at h;cases h⟩
  |false=>
   obtain⟨y,hy⟩:∃y,(A.K k)[(M.fr k).next]? =some y:=⟨_,XAO (fg.out uM.out)⟩;have HY:=XAA hy;have HA:=XAA (XF H1.out qeo hk HY.out);clear hy;go_wp2_with (go_at_call 61;refine HA.out.mono ?_;rintro e w5 ⟨rfl,M3,M4,f,h1,k1,r1⟩;have H5:=XAA (And.intro h1 (And.intro k1 r1));clear h1 k1 r1);go_meet;obtain⟨h1,k1,fr,nx,bz,ds,s1,x1,e1,e2,e3,e4⟩:=H5.out;have fr:M4.fr=aL M.fr k f:=fr;exact⟨M4,h1,F1.out.trans k1,λj hj=>by rw [fr,cP hj],by rw [fr,b_];exact nx,by rw [fr,b_];exact bz,ds,by have:M4.s<=M.s+9:=s1;omega,(λh=>by rw [uM.out] at h;cases h),λ_=>⟨y,M3,f,v,HY.out,x1,by rw [fr,b_],e1,e2,e3,e4⟩⟩
 case rest=>
  obtain⟨M1,h1,k1,i1⟩:=hcut;have H2:=XAA h1;have F2:=XAA k1;have I2:=XAA i1;clear h1 k1 i1 f2 cL a8 k29;obtain⟨cL,cj,f0,f1,f2,f3,f4,f5,f6,f7,f8,f9,f10,f11⟩:=H2.out.dt hk;have k29:wc.cell? (A.kb,29)=some (.slice (A.fb,0) A.C A.C):=H2.out.rd.k29;have a8:=H2.out.rd.lt;obtain⟨B1,c1,hav,-⟩:=(H2.out.fa k hk).1;obtain⟨B2,c2,gS,-⟩:=Own.slice (H2.out.fa k hk).2;rw [XAY] at hav;obtain⟨f,hf⟩:=Xq (M1.fr k);rw [hf] at f0 f1 f2 f3 f4 f5 f6 f7 f8 f9 f10 f11 hav gS;obtain⟨n1,hn1⟩:=Xq f.acts.length;obtain⟨n2,hn2⟩:=Xq f.hs.length;rw [hn1] at hav;rw [hn2] at gS;rw [hav] at f3;rw [gS] at f10;have HF:=XAA hf;have kd:=XAA hn1;have xy:=XAA gS;clear hf hn1 hn2 hav gS cj;go_upto_region 13 with fail
  refine bg (λW hW=>?_);have hcb:ak W wc.heap.size 159 #[nV f.next,I f.aM,.bool f.busy,.slice B1 n1 c1,I f.ai,I f.aq,I f.pK,I f.pA,I f.pB,I f.pC,.slice B2 n2 c2,I f.e]:=qdt
  have BW:Hid (Below wc wc W):=XAA qbq;have H3:=XAA (H2.out.below BW.out);have F3:=XAA (F2.out.trans (KF.below [] _ BW.out));have mW:=XAA hcb;have p3:W.cell? (wc.heap.size,3)=some (.slice B1 n1 c1):=hcb.cell 3;clear hW hcb f0 f1 f2 f3 f4 f5 f6 f7 f8 f9 f10 f11 k29 a8 cL;rcases XAr n1 with e0|e0
  .have hq0:=H3.out.new;obtain⟨y,hy⟩:∃y,(A.K k)[f.next]? =some y:=⟨_,XAO (by rw [<-HF.out];exact H3.out.ok.bu k hk I2.out.bu)⟩;obtain⟨g,c,hv,gO,u0,-⟩:=H3.out.GC hk hy;have hcl:=H3.out.sc.1.lt;obtain⟨a8,lL,-,k2,-,-,-,-,-,-,-,-,k29,k30,k31⟩:=H3.out.rd;have JW:=lL 30;obtain⟨B3,c3,hdv,-⟩:=Own.slice H3.out.ds.1;obtain⟨n3,hn3⟩:=Xq M1.ds.length;rw [hn3] at hdv;rw [hdv] at k30;have b1:¬(f.next:Int)<0:=by omega
   have hnl:=lt_of_some hy;obtain⟨m,hm⟩:=Xq ((A.K k).length);rw [hm] at hv hnl;have b2:¬m<=f.next:=qd
   have p0:W.cell? (wc.heap.size,0)=some (nV f.next):=mW.out.cell 0;have p1:W.cell? (wc.heap.size,1)=some (I f.aM):=mW.out.cell 1;have p7:W.cell? (wc.heap.size,10)=some (.slice B2 n2 c2):=mW.out.cell 10;have p8:W.cell? (wc.heap.size,11)=some (I f.e):=mW.out.cell 11;have b6:=mW.out.lt;have xu:=XAA hdv;have eb:=XAA hn3;clear hy hn3 hdv hm lL hq0;have EZ:=XAA (show M1.s<=27010 from qkd);have Jf:n3<=900000:=qgi
   have EZ:=XAA (show M1.s<=27010 from qkd);have Jf:n3<=900000:=qgi
   have HO:Hid (((W.alloc (.cells #[I k,I y.op,I f.aM,I M1.now,I f.e,.slice B2 n2 c2] 107)).drew).ownsRow 0 107 6 (.slice B3 n3 c3) n3 (M1.ds.flatMap f_)):=XAA (by
    have:=(Own.below H3.out.ds.1 (((XAC _ W).alloc (XAB _) (.cells #[I k,I y.op,I f.aM,I M1.now,I f.e,.slice B2 n2 c2] 107)).drew)).1
    rw [xu.out,eb.out] at this;exact this)
   have HR:=XAA ((Reads.lit W 107 #[I k,I y.op,I f.aM,I M1.now,I f.e,.slice B2 n2 c2] 1 6 R).drew);have oB:Hid (∀(o:Obj)(w3:World),(W.alloc o).drew.grownBy w3 (Value.slice B3 n3 c3).ownBlock->w3.heap[A.kb]? =W.heap[A.kb]?):=XAA λo w3 hg=>(hg.block A.kb (by show A.kb<(W.alloc o).heap.size;simp;omega) λe=>by
    rw [<-xu.out] at e
    have h1:=(H3.out.ds.1.2 _ e.symm).2
    rw [H3.out.k.2] at h1
    cases h1).trans (XAX W _ _ a8)
   go_upto_region 15 with fail
   apply kJ (A:=λg4 cap4 w5=>At A { M1 with s:=M1.s+1 } ⟨k,y.op,f.aM,M1.now,f.e,.slice B2 n2 c2,f.hs⟩ W (.slice (some ⟨g4,0,none⟩) (n3+1) cap4) w5)
   .intro hnext;have fg:=XAA hnext;clear hnext;obtain⟨S,hSd⟩:∃S:World->Prop,S=λw'=>w'.cell? (A.kb,30)=some (.slice B3 n3 c3)/\w'.cell? (A.kb,2)=some (.slice (A.aK,0) A.C A.C)/\w'.cell? (A.aK,k)=some (.slice (g,0) m c)/\w'.cell? (wc.heap.size,0)=some (nV f.next)/\w'.cell? (g,f.next*4)=some (I y.op)/\w'.cell? (wc.heap.size,1)=some (I f.aM)/\w'.cell? (A.kb,31)=some (I M1.now)/\w'.cell? (wc.heap.size,11)=some (I f.e)/\w'.cell? (wc.heap.size,10)=some (.slice B2 n2 c2):=⟨_,R⟩;have hS:S W.drew:=by rw [hSd];exact⟨k30,k2,hv,p0,u0,p1,k31,p8,p7⟩
    have dx:=XAA hSd;clear hSd;refine aaC S 31 qh ?_;refine aaz (i:=0) (v:=?_) R qh (λ_ _ _ h=>h) (Or.inl ⟨qu,?_⟩) qm ?_
    rotate_left 1
    ·(intro w' hSw;go_simp;first|done|with_reducible rfl)
    simp only [Act.put];refine dK (i:=1) (v:=?_) R qh (λ_ _ _ h=>h) (Or.inl ⟨qu,?_⟩) qm ?_
    rotate_left 1
    ·(intro w' hSw;rw [dx.out] at hSw;obtain⟨x1,x2,x3,x4,x5,x6,x7,x8,x9⟩:=hSw;go_simp;first|done|with_reducible rfl)
    simp only [Act.put];refine dK (i:=2) (v:=?_) R qh (λ_ _ _ h=>h) (Or.inl ⟨qu,?_⟩) qm ?_
    rotate_left 1
    ·(intro w' hSw;rw [dx.out] at hSw;obtain⟨x1,x2,x3,x4,x5,x6,x7,x8,x9⟩:=hSw;go_simp;first|done|with_reducible rfl)
    simp only [Act.put];refine dK (i:=3) (v:=?_) R qh (λ_ _ _ h=>h) (Or.inl ⟨qu,?_⟩) qm ?_
    rotate_left 1
    ·(intro w' hSw;rw [dx.out] at hSw;obtain⟨x1,x2,x3,x4,x5,x6,x7,x8,x9⟩:=hSw;go_simp;first|done|with_reducible rfl)
    simp only [Act.put];refine dK (i:=4) (v:=?_) R qh (λ_ _ _ h=>h) (Or.inl ⟨qu,?_⟩) qm ?_
    rotate_left 1
    ·(intro w' hSw;rw [dx.out] at hSw;obtain⟨x1,x2,x3,x4,x5,x6,x7,x8,x9⟩:=hSw;go_simp;first|done|with_reducible rfl)
    simp only [Act.put];refine dK (i:=5) (v:=?_) R qh (λ_ _ _ h=>h) (Or.inl ⟨qu,?_⟩) qm ?_
    rotate_left 1
    ·(intro w' hSw;rw [dx.out] at hSw;obtain⟨x1,x2,x3,x4,x5,x6,x7,x8,x9⟩:=hSw;go_simp;first|done|with_reducible rfl)
    simp only [Act.put];refine dK (i:=6) (v:=?_) R qh (λ_ _ _ h=>h) (Or.inl ⟨qu,?_⟩) qm ?_
    rotate_left 1
    ·(intro w' hSw;rw [dx.out] at hSw;obtain⟨x1,x2,x3,x4,x5,x6,x7,x8,x9⟩:=hSw;go_simp;first|done|with_reducible rfl)
    simp only [Act.put];refine dK (i:=7) (v:=?_) R qh (λ_ _ _ h=>h) (Or.inl ⟨qu,?_⟩) qm ?_
    rotate_left 1
    ·(intro w' hSw;rw [dx.out] at hSw;obtain⟨x1,x2,x3,x4,x5,x6,x7,x8,x9⟩:=hSw;go_simp;first|done|with_reducible rfl)
    simp only [Act.put];refine dK (i:=8) (v:=?_) R qh (λ_ _ _ h=>h) (Or.inl ⟨qu,?_⟩) qm ?_
    rotate_left 1
    ·(intro w' hSw;rw [dx.out] at hSw;obtain⟨x1,x2,x3,x4,x5,x6,x7,x8,x9⟩:=hSw;go_simp;first|done|with_reducible rfl)
    simp only [Act.put];refine dK (i:=9) (v:=?_) R qh (λ_ _ _ h=>h) (Or.inl ⟨qu,?_⟩) qm ?_
    rotate_left 1
    ·(intro w' hSw;rw [dx.out] at hSw;obtain⟨x1,x2,x3,x4,x5,x6,x7,x8,x9⟩:=hSw;go_simp;first|done|with_reducible rfl)
    simp only [Act.put];refine dK (i:=10) (v:=?_) R qh (λ_ _ _ h=>h) (Or.inl ⟨qu,?_⟩) qm ?_
    rotate_left 1
    ·(intro w' hSw;rw [dx.out] at hSw;obtain⟨x1,x2,x3,x4,x5,x6,x7,x8,x9⟩:=hSw;go_simp;first|done|with_reducible rfl)
    simp only [Act.put];refine dK (i:=11) (v:=?_) R qh (λ_ _ _ h=>h) (Or.inl ⟨qu,?_⟩) qm ?_
    rotate_left 1
    ·(intro w' hSw;rw [dx.out] at hSw;obtain⟨x1,x2,x3,x4,x5,x6,x7,x8,x9⟩:=hSw;go_simp;first|done|with_reducible rfl)
    simp only [Act.put];refine dK (i:=12) (v:=?_) R qh (λ_ _ _ h=>h) (Or.inl ⟨qu,?_⟩) qm ?_
    rotate_left 1
    ·(intro w' hSw;rw [dx.out] at hSw;obtain⟨x1,x2,x3,x4,x5,x6,x7,x8,x9⟩:=hSw;go_simp;first|done|with_reducible rfl)
    simp only [Act.put];refine dK (i:=13) (v:=?_) R qh (λ_ _ _ h=>h) (Or.inl ⟨qu,?_⟩) qm ?_
    rotate_left 1
    ·(intro w' hSw;rw [dx.out] at hSw;obtain⟨x1,x2,x3,x4,x5,x6,x7,x8,x9⟩:=hSw;go_simp;first|done|with_reducible rfl)
    simp only [Act.put];refine dK (i:=14) (v:=?_) R qh (λ_ _ _ h=>h) (Or.inl ⟨qu,?_⟩) qm ?_
    rotate_left 1
    ·(intro w' hSw;rw [dx.out] at hSw;obtain⟨x1,x2,x3,x4,x5,x6,x7,x8,x9⟩:=hSw;go_simp;first|done|with_reducible rfl)
    simp only [Act.put];refine dK (i:=15) (v:=?_) R qh (λ_ _ _ h=>h) (Or.inl ⟨qu,?_⟩) qm ?_
    rotate_left 1
    ·(intro w' hSw;rw [dx.out] at hSw;obtain⟨x1,x2,x3,x4,x5,x6,x7,x8,x9⟩:=hSw;go_simp;first|done|with_reducible rfl)
    simp only [Act.put];refine dK (i:=16) (v:=?_) R qh (λ_ _ _ h=>h) (Or.inl ⟨qu,?_⟩) qm ?_
    rotate_left 1
    ·(intro w' hSw;rw [dx.out] at hSw;obtain⟨x1,x2,x3,x4,x5,x6,x7,x8,x9⟩:=hSw;go_simp;first|done|with_reducible rfl)
    simp only [Act.put];refine dK (i:=17) (v:=?_) R qh (λ_ _ _ h=>h) (Or.inl ⟨qu,?_⟩) qm ?_
    rotate_left 1
    ·(intro w' hSw;rw [dx.out] at hSw;obtain⟨x1,x2,x3,x4,x5,x6,x7,x8,x9⟩:=hSw;go_simp;first|done|with_reducible rfl)
    simp only [Act.put];refine dK (i:=18) (v:=?_) R qh (λ_ _ _ h=>h) (Or.inl ⟨qu,?_⟩) qm ?_
    rotate_left 1
    ·(intro w' hSw;rw [dx.out] at hSw;obtain⟨x1,x2,x3,x4,x5,x6,x7,x8,x9⟩:=hSw;go_simp;first|done|with_reducible rfl)
    simp only [Act.put];refine dK (i:=19) (v:=?_) R qh (λ_ _ _ h=>h) (Or.inl ⟨qu,?_⟩) qm ?_
    rotate_left 1
    ·(intro w' hSw;rw [dx.out] at hSw;obtain⟨x1,x2,x3,x4,x5,x6,x7,x8,x9⟩:=hSw;go_simp;first|done|with_reducible rfl)
    simp only [Act.put];refine dK (i:=20) (v:=?_) R qh (λ_ _ _ h=>h) (Or.inl ⟨qu,?_⟩) qm ?_
    rotate_left 1
    ·(intro w' hSw;rw [dx.out] at hSw;obtain⟨x1,x2,x3,x4,x5,x6,x7,x8,x9⟩:=hSw;go_simp;first|done|with_reducible rfl)
    simp only [Act.put];refine dK (i:=21) (v:=?_) R qh (λ_ _ _ h=>h) (Or.inl ⟨qu,?_⟩) qm ?_
    rotate_left 1
    ·(intro w' hSw;rw [dx.out] at hSw;obtain⟨x1,x2,x3,x4,x5,x6,x7,x8,x9⟩:=hSw;go_simp;first|done|with_reducible rfl)
    simp only [Act.put];refine dK (i:=22) (v:=?_) R qh (λ_ _ _ h=>h) (Or.inl ⟨qu,?_⟩) qm ?_
    rotate_left 1
    ·(intro w' hSw;rw [dx.out] at hSw;obtain⟨x1,x2,x3,x4,x5,x6,x7,x8,x9⟩:=hSw;go_simp;first|done|with_reducible rfl)
    simp only [Act.put];refine dK (i:=23) (v:=?_) R qh (λ_ _ _ h=>h) (Or.inl ⟨qu,?_⟩) qm ?_
    rotate_left 1
    ·(intro w' hSw;rw [dx.out] at hSw;obtain⟨x1,x2,x3,x4,x5,x6,x7,x8,x9⟩:=hSw;go_simp;first|done|with_reducible rfl)
    simp only [Act.put];refine dK (i:=24) (v:=?_) R qh (λ_ _ _ h=>h) (Or.inl ⟨qu,?_⟩) qm ?_
    rotate_left 1
    ·(intro w' hSw;rw [dx.out] at hSw;obtain⟨x1,x2,x3,x4,x5,x6,x7,x8,x9⟩:=hSw;go_simp;first|done|with_reducible rfl)
    simp only [Act.put];refine dK (i:=25) (v:=?_) R qh (λ_ _ _ h=>h) (Or.inl ⟨qu,?_⟩) qm ?_
    rotate_left 1
    ·(intro w' hSw;rw [dx.out] at hSw;obtain⟨x1,x2,x3,x4,x5,x6,x7,x8,x9⟩:=hSw;go_simp;first|done|with_reducible rfl)
    simp only [Act.put];refine dK (i:=26) (v:=?_) R qh (λ_ _ _ h=>h) (Or.inl ⟨qu,?_⟩) qm ?_
    rotate_left 1
    ·(intro w' hSw;rw [dx.out] at hSw;obtain⟨x1,x2,x3,x4,x5,x6,x7,x8,x9⟩:=hSw;go_simp;first|done|with_reducible rfl)
    simp only [Act.put];refine dK (i:=27) (v:=?_) R qh (λ_ _ _ h=>h) (Or.inl ⟨qu,?_⟩) qm ?_
    rotate_left 1
    ·(intro w' hSw;rw [dx.out] at hSw;obtain⟨x1,x2,x3,x4,x5,x6,x7,x8,x9⟩:=hSw;go_simp;first|done|with_reducible rfl)
    simp only [Act.put];refine dK (i:=28) (v:=?_) R qh (λ_ _ _ h=>h) (Or.inl ⟨qu,?_⟩) qm ?_
    rotate_left 1
    ·(intro w' hSw;rw [dx.out] at hSw;obtain⟨x1,x2,x3,x4,x5,x6,x7,x8,x9⟩:=hSw;go_simp;first|done|with_reducible rfl)
    simp only [Act.put];refine dK (i:=29) (v:=?_) R qh (λ_ _ _ h=>h) (Or.inl ⟨qu,?_⟩) qm ?_
    rotate_left 1
    ·(intro w' hSw;rw [dx.out] at hSw;obtain⟨x1,x2,x3,x4,x5,x6,x7,x8,x9⟩:=hSw;go_simp;first|done|with_reducible rfl)
    simp only [Act.put];refine wX (i:=30) R qh (λK hK=>?_);have HK:=XAA hK;clear hK;go_simp;refine HK.out _ _ (λ_ _=>by rw [dx.out];exact⟨eT k30,eT k2,eT hv,eT p0,eT u0,eT p1,eT k31,eT p8,eT p7⟩) ?_;clear HK;refine wX (i:=31) R qh (λK hK=>?_);have HK:=XAA hK;clear hK;refine iS WI R qf underlying56 R _ _ qu _ n3 (M1.ds.flatMap f_) qu HO.out (some ⟨W.heap.size,0,none⟩) 1 1 [I k,I y.op,I f.aM,I M1.now,I f.e,.slice B2 n2 c2] qu HR.out qk qd qf qd ?_;intro g4 cap4 w6 cD nL hq6;have hfn:=oB.out _ w6 nL;have hy:=(XAP (w:=W) (a:=⟨A.kb,30,none⟩) hfn).trans k30;have hz:=(XAh (w:=W) (a:=⟨A.kb,30,none⟩) hfn).trans JW;clear hfn;refine HK.out _ _ (λ_ h=>absurd R h) ?_;clear HK;have h7:=(H3.out.more (s':=M1.s+1) qd).SF ⟨k,y.op,f.aM,M1.now,f.e,.slice B2 n2 c2,f.hs⟩ (n:=n3) (wa:=(W.alloc (.cells #[I k,I y.op,I f.aM,I M1.now,I f.e,.slice B2 n2 c2] 107)).drew) ((XAC _ W).alloc (XAB _) _).drew (w3:=w6) (g:=g4) (cap:=cap4) eb.out cD (by rw [xu.out];exact nL) (by rw [xu.out];exact hq6);have H7:=XAA h7;clear h7 cD nL hq6;refine wX (i:=32) R qh (λK hK=>?_);have HK:=XAA hK;clear hK;go_simp;refine HK.out _ _ (λh=>absurd h qf) ?_;clear HK;refine wX (i:=33) R qh (λK hK=>?_);have HK:=XAA hK;clear hK;go_simp;refine HK.out _ _ (λh=>absurd h qf) ?_;clear HK;refine wX (i:=34) R qh (λK hK=>?_);have HK:=XAA hK;clear hK;go_simp;refine HK.out _ _ (λh=>absurd h qf) ?_;clear HK;refine aay qh ?_ _;have h7:=H7.out;generalize w6.setCell (A.kb,30) (.slice (g4,0) (n3+1) cap4)=w7 at h7 ⊢;exact fg.out g4 cap4 w7 h7
   .rintro g4 cap4 w5 h5;have H5:=XAA h5;have hz0:M1.cl wc.heap.size=0:=H2.out.new _ (XAB _);have bJ:=h5.md.blk mW.out (by rw [hz0];decide);have fe:=h5.md.block A.fb H3.out.fr.1.lt (by rw [H3.out.fr.2];decide);obtain⟨cL,cj,f0,f1,f2,f3,f4,f5,f6,f7,f8,f9,f10,f11⟩:=H3.out.dt hk;have Z7:w5.cell? (A.kb,29)=some (.slice (A.fb,0) A.C A.C):=h5.kb.cell 29;have qlt:=h5.kb.lt;have q0:w5.cell? (wc.heap.size,0)=some (nV f.next):=bJ.cell 0;have qpl:=bJ.lt;have g0:=(XAP (w:=W) (a:=⟨A.fb,k*12,none⟩) fe).trans f0;have g1:=(XAP (w:=W) (a:=⟨A.fb,k*12+1,none⟩) fe).trans f1;have g2:=(XAP (w:=W) (a:=⟨A.fb,k*12+2,none⟩) fe).trans f2;have g3:=(XAP (w:=W) (a:=⟨A.fb,k*12+3,none⟩) fe).trans f3;have g5:=(XAP (w:=W) (a:=⟨A.fb,k*12+4,none⟩) fe).trans f4;have g6:=(XAP (w:=W) (a:=⟨A.fb,k*12+5,none⟩) fe).trans f5;have g7:=(XAP (w:=W) (a:=⟨A.fb,k*12+6,none⟩) fe).trans f6;have g8:=(XAP (w:=W) (a:=⟨A.fb,k*12+7,none⟩) fe).trans f7;have g9:=(XAP (w:=W) (a:=⟨A.fb,k*12+8,none⟩) fe).trans f8;have g10:=(XAP (w:=W) (a:=⟨A.fb,k*12+9,none⟩) fe).trans f9;have g11:=(XAP (w:=W) (a:=⟨A.fb,k*12+10,none⟩) fe).trans f10;have g12:=(XAP (w:=W) (a:=⟨A.fb,k*12+11,none⟩) fe).trans f11;have Vp:∀j,w5.frozen? ⟨A.fb,j,none⟩=false:=λj=>(XAh (w:=W) (a:=⟨A.fb,j,none⟩) fe).trans (cj j);have Vo:A.fb<w5.heap.size:=XAH cL h5.md.size;have hml:=H3.out.ok.kl k hk;have hnx:f.next<=64:=by have:=H3.out.ok.bu k hk I2.out.bu;rw [HF.out] at this;omega
    have hwr:IntKind.i64.wrap ((f.next:Int)+1)=((f.next+1:Nat):Int):=qfm;clear h5 bJ fe f0 f1 f2 f3 f4 f5 f6 f7 f8 f9 f10 f11 cL cj p0 p1 p7 p8 b6 u0 hv gO hcl k2 k29 k30 k31 JW a8 HO HR oB hml p3;go_wp2;go_region;have hk5:=(H3.out.more (s':=M1.s+1) qd).SG hk H5.out (by show _=(M1.fr k).hv;rw [HF.out];exact xy.out.symm) (by show _=(M1.fr k).hs;rw [HF.out]) (by show M1.ds.length+1<=30*(M1.s+1);have:=H3.out.ok.ds;omega) (f.next+1);obtain⟨c6,h6,k6⟩:=hk5;unfold kK dV at h6 k6;dsimp only at h6 k6;rw [show nV (f.next+1)=I ((f.next:Int)+1) from XAK (Value.int .i64) qd] at h6 k6;go_upto_region 17 with fail
    refine bg (λW6 tW=>?_);have h6':=h6.drew;have v_:=k6.trans (KF.below [] _ (XAC _ _).drew);rw [<-tW] at h6' v_;clear tW h6 k6 g0 g1 g2 g3 g5 g6 g7 g8 g9 g10 g11 g12 Vp Vo Z7 qlt q0 qpl hwr;obtain⟨M6,IC,hk6,e6⟩:∃M6:KS,KM A W6 M6/\KF [] M1.cl M6.cl W W6/\(M6.fr=aL M1.fr k (dV (f.next+1))/\M6.hs=M1.hs/\M6.ds=M1.ds++ [⟨k,y.op,f.aM,M1.now,f.e,.slice B2 n2 c2,f.hs⟩]/\M6.gr=M1.gr/\M6.T=M1.T/\M6.cs=M1.cs/\M6.s=M1.s+1):=⟨_,h6',v_,R,R,R,R,R,R,R⟩;clear h6' v_;have E6:=XAA e6;have H6:=XAA IC;have K6:=XAA hk6;clear e6 IC hk6;have j26:=H6.out.rd.k26;have jlt:=H6.out.rd.lt;obtain⟨dp,hdp⟩:=Xq (oS M6.gr k);have sZ:Hid (Z 62 #[(A.gb,0),I k] W6 λe w'=>e=.returned (I dp)/\w'=W6):=XAA (by rw [<-hdp];exact J0 H6.out k);clear hdp;have BZ:Hid (∀M8:KS,M8.fr=M6.fr->M8.ds=M6.ds->Bz A M8):=XAA λM8 r1 r2=>⟨λi hi hb=>by
     rw [r1,E6.out.1] at hb ⊢
     by_cases e:i=k
     .subst e;rw [b_] at hb;cases hb
     .rw [cP e] at hb ⊢
      rw [I2.out.fr i e] at hb ⊢;exact HZ.out.ac i hi hb,λd hd=>by
     rw [r2,E6.out.2.2.1] at hd
     rcases XAe.1 hd with hd|hd
     .exact HZ.out.dl d (by rw [<-I2.out.ds];exact hd)
     .simp at hd;subst hd
      have:=H3.out.ok.fl k hk
      rw [HF.out] at this
      have:=I2.out.s
      show f.hs.length<=_;omega⟩
    have hae:(M1.fr k).acts= []:=by rw [HF.out];exact XBN (by rw [kd.out];exact e0)
    have EI:=XAA hae;clear hae;rcases (by cases(dp==0)<;>simp:(dp==0)=true\/(dp==0)=false) with q3|q3
    .have s6:M6.s<=30000:=by rw [E6.out.2.2.2.2.2.2];have:=I2.out.s;omega
     go_wp2_with (first|(go_at_call 62;refine sZ.out.mono ?_;rintro e wv ⟨rfl,hw1⟩;replace hw1:=hw1.symm;subst hw1)|(go_at_call 63;(refine(yZ H6.out s6 hk).mono ?_);rintro e w7 ⟨er,c7,rfl,h7⟩;have H7:=XAA h7;clear h7)|(go_at_call 64;(refine(Dq H7.out.km hk).mono ?_);rintro e w8 ⟨rfl,M8,h8,k8,s8,e8,g8,t8⟩;have H8:=XAA (And.intro h8 (And.intro k8 (And.intro s8 (And.intro e8 (And.intro g8 t8)))));clear h8 k8 s8 e8 g8 t8));go_ret;obtain⟨h8,k8,s8,e8,g8,t8⟩:=H8.out;have r1:M8.fr=M6.fr:=s8.fr;have r2:M8.ds=M6.ds:=s8.ds;have r3:M8.hs=M6.hs:=s8.hs;obtain⟨e61,e62,e63,e64,e65,B9,G5⟩:=E6.out;exact⟨rfl,M1,M8,h8,((F3.out.trans K6.out).trans (H7.out.kf qf)).trans k8,BZ.out M8 r1 r2,by rw [e8];show M6.s+1<=_;have:=I2.out.s;omega,I2.out,λh=>absurd EI.out h,λ_=>⟨by rw [r1,e61,HF.out],by rw [r3,e62],by rw [r2,e63];simp,λhn=>by
      have Je:gI (fR M6.gr k).1:=by rw [e64];exact hn.quiet k
      obtain⟨p1,p2⟩:=Je.poll k
      obtain⟨t1,t2⟩:=t8 p2
      exact⟨by rw [g8];exact p1,by rw [t1];exact e65,by rw [t2];exact B9⟩⟩⟩
    .go_wp2_with (go_at_call 62;refine sZ.out.mono ?_;rintro e wv ⟨rfl,hw1⟩;replace hw1:=hw1.symm;subst hw1);go_ret;obtain⟨e61,e62,e63,e64,e65,B9,G5⟩:=E6.out;exact⟨R,M1,M6,H6.out,F3.out.trans K6.out,BZ.out M6 R R,by rw [G5];have:=I2.out.s;omega,I2.out,λh=>absurd EI.out h,λ_=>⟨by rw [e61,HF.out],e62,by rw [e63];simp,λhn=>⟨by rw [e64];exact hn,e65,B9⟩⟩⟩
  .have b1:(0:Int)<(n1:Int):=by omega
   go_wp2;go_ret;have hne:(M1.fr k).acts≠ []:=λe=>by rw [HF.out] at e;have:=kd.out;rw [e] at this;simp at this;omega
   exact⟨R,M1,M1,H3.out,F3.out,⟨λi hi hb=>by
    by_cases e:i=k
    .rw [e];exact hne
    .rw [I2.out.fr i e] at hb ⊢;exact HZ.out.ac i hi hb,λd hd=>HZ.out.dl d (by rw [<-I2.out.ds];exact hd)⟩,qkd,I2.out,λ_=>rfl,λe=>absurd e hne⟩
end
end Go.Proofs.YtedefgjfgdcfdaaGreatDoor
