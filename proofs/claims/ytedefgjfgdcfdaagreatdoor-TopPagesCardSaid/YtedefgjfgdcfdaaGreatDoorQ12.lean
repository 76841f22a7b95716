/- Walks and laws for TopPages. -/
import Derived.Test.YtedefgjfgdcfdaaGreatDoorQ10
import Derived.Test.YtedefgjfgdcfdaaGreatDoorQ11
namespace Go.Proofs.YtedefgjfgdcfdaaGreatDoor
open Go.RowKit Go.Proofs.Tryz
set_option maxRecDepth 100000
set_option maxHeartbeats 4000000
section
variable{w w':World}{s mb g:Nat}{c:Ch}{E:St}
theorem Uy(w:World)(b:Bool)(x y:Int)(h:FuW w s mb g c E):Z 323 #[(s,0),.bool b,I x,I y] w λe w'=>
  e=.returned (.tuple #[])/\FuW w' s mb g c (E.sPc (bif b then x else y))/\Fr s mb g w w':=by
 have hh:=h;have rr:=Rws.refl [s,mb,g] w;have hlt:=h.lt;clear h;cases b;all_goals
  go_enter func323,ntmps323;go_wp2_with (first|(go_at_call 276;(with_reducible refine(fuTo _ (_) hh).mono ?_);rintro e w5 ⟨rfl,h5,r5⟩;replace hh:=h5;replace rr:=Rws.trans rr r5));refine Xe ?_;exact⟨R,hh,rr⟩
theorem UM(w:World)(h:FuW w s mb g c E)(i o:Int)(f l q:Bool)(hq:cntF E.t.K=(⟨i,o,f,l⟩,q)):Z 328 #[(s,0)] w λe w'=>
  e=.returned (.agg #[I i,I o,.bool f,.bool l])/\FuW w' s mb g c (must (q && l) E)/\Fr s mb g w w':=by
 have hlt:=h.lt;obtain⟨l1,l2,l3⟩:=h.bj;have hK:=h.ok.K;have hK':(E.t.K:Int)<18446744073709551616:=qew
 have hh:=h;have HQ:=XAA hq;clear hq;have k17:w.cell? (s,17)=J E.t.K:=hh.cell 17;have f17:=hh.frz 17
 clear h;go_enter func328,ntmps328;go_wp2_with fail;refine(BV E.t.K i o f l q qd hK' HQ.out _).mono ?_;rintro e w1 ⟨rfl,hb1⟩;have Br:=(ak.new w 364 #[I 0,I 0,.bool false,.bool false]).below hb1;have hbw:Below w w w1:=qa;replace hh:=hh.below hbw;have rr:=Rws.of_below [s,mb,g] hbw;have z1:=hb1.size;rw [XAT] at z1;clear hb1 hbw hK hK' HQ;have Bn:=ak.new w1 364 #[I 0,I 0,.bool false,.bool false];cases q;all_goals
  go_wp2_with (first|(refine aU R 364 _ _ R _ R R (Bn) R qh qk ?_;intro w8 aC kb8;have kc8:=kb8.cell));have hl:=hh.bj;replace hh:=(hh.alloc (.cells #[I 0,I 0,.bool false,.bool false] 364)).rws aC.rws qj qj qj;replace rr:=Fr.only (Fr.alloc rr (.cells #[I 0,I 0,.bool false,.bool false] 364)) aC qd;replace Br:=(Br.alloc (.cells #[I 0,I 0,.bool false,.bool false] 364)).only aC qd;clear aC kc8;refine(fuMustS _ _ hh).mono ?_;rintro e w4 ⟨rfl,h4,r4⟩;replace Br:=Br.rws r4 qj;replace kb8:=kb8.rws r4 qj;replace rr:=Rws.trans rr r4;have kc:=kb8.cell;clear kb8 hh r4;go_wp2_with (first|(refine aU R 364 _ _ R _ R R (Br) R qh qk ?_;intro w9 jg jj;have we:=jj.cell));refine XAI (sC R _ _ qu (cn 364 jj XEZ R qh)) R ?_;exact⟨R,h4.rws jg.rws qj qj qj,Fr.only rr jg (XAB _)⟩
theorem UL(w:World)(h:FuW w s mb g c E):Z 328 #[(s,0)] w λe w'=>
  e=.returned (.agg #[I (cY E).1.i,I (cY E).1.o,.bool (cY E).1.f,.bool (cY E).1.l])/\FuW w' s mb g c (cY E).2/\Fr s mb g w w':=by
 rcases hz:cntF (E.t.K:Int) with⟨⟨i,o,f,l⟩,q⟩;have e:cY E=(⟨i,o,f,l⟩,must (q && l) E):=qkn
 rw [e];exact UM w h i o f l q hz
end
section
variable{T0:TypeId}{w w':World}{s mb g:Nat}{c:Ch}{bad:Bool}{k:Nat}{ar aj pc az aB ai aq au ay to aw fr:Int}{H T F K N:Nat}
variable{t:Tk}
theorem kM(a:Bool)(h:SX 321 w s mb g c t bad k):Z 277 #[(s,0),.bool a] w λe w'=>e=.returned (.tuple #[])/\SX 321 w' s mb g c t (bad|| !a) k/\Fr s mb g w w':=by
 obtain⟨ws,n,hn,h⟩:=h;exact(fuMustS w a h).mono λ_ _ ⟨h1,h2,h3⟩=>⟨h1,SX.of h2 hn,h3⟩
theorem oY(x:Int)(h:SX 321 w s mb g c ⟨ar,aj,pc,az,aB,ai,aq,H,T,F,K,N,au,ay,to,aw,fr⟩ bad k):Z 276 #[(s,0),I x] w λe w'=>e=.returned (.tuple #[])/\SX 321 w' s mb g c ⟨ar,aj,x,az,aB,ai,aq,H,T,F,K,N,au,ay,to,aw,fr⟩ bad k/\Fr s mb g w w':=by
 obtain⟨ws,n,hn,h⟩:=h;exact(fuTo w x h).mono λ_ _ ⟨h1,h2,h3⟩=>⟨h1,SX.of h2 hn,h3⟩
theorem Cp(h:SX 321 w s mb g c ⟨ar,aj,pc,az,aB,ai,aq,H,T,F,K,N,au,ay,to,aw,fr⟩ bad k):Z 275 #[(s,0)] w λe w'=>e=.returned (.tuple #[])/\SX 321 w' s mb g c ⟨ar,aj,pc,1,aB,ai,aq,H,T,F,K,N,au,ay,to,aw,fr⟩ bad k/\Fr s mb g w w':=by
 have hh:=h;have k10:w.cell? (s,10)=I az:=h.cell 10;have f10:=h.frz 10;have hlt:=h.lt;clear h;go_enter func275,ntmps275;go_wp2;go_end0;exact⟨R,hh.nX 1,Fr.set (Rws.refl _ _) _ _⟩
theorem vx(b:Bool)(x y:Int)(h:SX 321 w s mb g c ⟨ar,aj,pc,az,aB,ai,aq,H,T,F,K,N,au,ay,to,aw,fr⟩ bad k):Z 323 #[(s,0),.bool b,I x,I y] w λe w'=>e=.returned (.tuple #[])/\SX 321 w' s mb g c ⟨ar,aj,(bif b then x else y),az,aB,ai,aq,H,T,F,K,N,au,ay,to,aw,fr⟩ bad k/\Fr s mb g w w':=by
 obtain⟨ws,n,hn,h⟩:=h;exact(Uy w b x y h).mono λ_ _ ⟨h1,h2,h3⟩=>⟨h1,SX.of h2 hn,h3⟩
theorem nH(a:Int)(h:SX 321 w s mb g c t bad k)(hk:k<=999990):Z 320 #[(s,0),I a] w λe w'=>∃(v:Nat)(b':Bool),v<U64/\e=.returned (J v)/\SX 321 w' s mb g c t b' (k+1)/\Fr s mb g w w':=by
 obtain⟨ws,n,hn,h⟩:=h;exact(fuLoad w h qbh a).mono λ_ _ ⟨h1,h2,h3⟩=>⟨_,_,fP h a,h1,SX.of h2 (XAL (eY _ _) qdx),h3⟩
theorem Ct(a v:Int)(hv:U6 v)(h:SX 321 w s mb g c t bad k)(hk:k<=999990):Z 326 #[(s,0),I a,J v] w λe w'=>∃b':Bool,e=.returned (.tuple #[])/\SX 321 w' s mb g c t b' (k+1)/\Fr s mb g w w':=by
 obtain⟨v,rfl,hv1⟩:=hv.nat;obtain⟨ws,n,hn,h⟩:=h;exact(fuStore w h qbh a v hv1).mono λ_ _ ⟨h1,h2,h3⟩=>⟨_,h1,SX.of h2 (XAL (eY _ _) qdx),h3⟩
theorem yC(a p q v v2:Int)(hp:U6 p)(hq:U6 q)(hv:U6 v)(hv2:U6 v2)(h:SX 321 w s mb g c t bad k)(hk:k<=999990):Z 324 #[(s,0),I a,J p,J q,J v,J v2] w λe w'=>∃(is b':Bool),(is=true->0<=a)/\e=.returned (.bool is)/\SX 321 w' s mb g c t b' (k+1)/\Fr s mb g w w':=by
 obtain⟨p,rfl,-⟩:=hp.nat;obtain⟨q,rfl,-⟩:=hq.nat;obtain⟨v,rfl,hv1⟩:=hv.nat;obtain⟨v2,rfl,hv3⟩:=hv2.nat;obtain⟨ws,n,hn,h⟩:=h;refine(fuCas2 w h qbh a p q v v2 hv1 hv3).mono λ_ _ ⟨h1,h2,h3⟩=>⟨_,_,λhi=>?_,h1,SX.of h2 (XAL (eY _ _) qdx),h3⟩;have hi':(inB a 2 ⟨t,bad,ws,n⟩ && decide (wd a ⟨t,bad,ws,n⟩=p/\wd (a+1) ⟨t,bad,ws,n⟩=q))=true:=hi;rw [XAt] at hi';have:=XBY hi'.1;exact this.1
theorem Vh(h:SX 321 w s mb g c t bad k)(hk:k<=999990):Z 301 #[(mb,0),I (iu c),J 0,J 1] w λe w'=>∃is b':Bool,e=.returned (.tuple #[.bool is,I 0])/\SX 321 w' s mb g c t b' (k+1)/\Fr s mb g w w':=by
 obtain⟨ws,n,hn,h⟩:=h;exact(DB w h qbh (iu c) 0 1 qf (Dz h)).mono λ_ _ ⟨h1,h2,h3⟩=>⟨_,_,h1,SX.of h2 (XAL (eY _ _) qdx),h3⟩
theorem Vg(y:Int)(hy:U6 y)(h:SX 321 w s mb g c t bad k)(hk:k<=999990):Z 306 #[(mb,0),I (lI c),J y] w λe w'=>∃(v:Int)(b':Bool),e=.returned (.tuple #[J v,I 0])/\SX 321 w' s mb g c t b' (k+1)/\Fr s mb g w w':=by
 obtain⟨y,rfl,-⟩:=hy.nat;obtain⟨ws,n,hn,h⟩:=h;exact(DA w h qbh (lI c) y (CR h)).mono λ_ _ ⟨h1,h2,h3⟩=>⟨_,_,h1,SX.of h2 (XAL (eY _ _) qdx),h3⟩
theorem vy(h:SX 321 w s mb g c t bad k):Z 328 #[(s,0)] w λe w'=>∃(i o:Int)(f l b':Bool),e=.returned (.agg #[I i,I o,.bool f,.bool l])/\SX 321 w' s mb g c t b' k/\Fr s mb g w w':=by
 obtain⟨ws,n,hn,h⟩:=h;obtain⟨e1,e2⟩:=D3 ⟨t,bad,ws,n⟩;refine(UL w h).mono λ_ _ ⟨h1,h2,h3⟩=>?_;have:=SX.sw (k:=k) h2 (by rw [e2];exact hn);rw [e1] at this;exact⟨_,_,_,_,_,h1,this,h3⟩
end
section
variable{T0:TypeId}{w w':World}{s mb g:Nat}{c:Ch}{bad:Bool}{k:Nat}{ar aj pc az aB ai aq au ay to aw fr:Int}{H T F K N:Nat}
def Mw(s mb g:Nat)(c:Ch)(t:Tk)(k:Nat)(w:World)(e:Ending)(w':World):Prop:=∃b':Bool,e=.returned (.tuple #[])/\SX 321 w' s mb g c t b' (k+1)/\Fr s mb g w w'
def ON(s mb g:Nat)(c:Ch)(t:Tk)(k:Nat)(w:World)(e:Ending)(w':World):Prop:=∃is b':Bool,e=.returned (.bool is)/\SX 321 w' s mb g c t b' (k+1)/\Fr s mb g w w'
def OH(s mb g:Nat)(c:Ch)(t:Tk)(k:Nat)(w:World)(e:Ending)(w':World):Prop:=∃(v:Nat)(a:Int)(b':Bool),v<U64/\e=.returned (.tuple #[J v,I a])/\SX 321 w' s mb g c t b' (k+1)/\Fr s mb g w w'
def OT(s mb g:Nat)(c:Ch)(t:Tk)(k:Nat)(w:World)(e:Ending)(w':World):Prop:=∃(v:Nat)(b':Bool),v<U64/\e=.returned (.tuple #[])/\SX 321 w' s mb g c { t with N:=v } b' (k+1)/\Fr s mb g w w'
theorem Co(y:Int)(hy:U6 y)(h:SX 321 w s mb g c ⟨ar,aj,pc,az,aB,ai,aq,H,T,F,K,N,au,ay,to,aw,fr⟩ bad k)(hk:k<=999980):Z 330 #[(s,0),J y] w (Mw s mb g c ⟨ar,aj,pc,az,aB,ai,aq,H,T,F,K,N,au,ay,to,aw,fr⟩ k w):=by
 have hlt:=h.lt;have hh:=h;have rr:=Rws.refl [s,mb,g] w;have kk:=h.all;clear h;go_enter func330,ntmps330;go_wp2_with fail;replace hh:=SX.drew hh;replace rr:=Rws.drew (a:=w) qb;clear kk;have kk:=hh.all;go_region_held3 (λw'=>bH w' s c (w'.cell? (s,0)=some (.pointer (mb,0)))) (first|exact Xk) (first|(go_at_call 307;(with_reducible refine XAF (rJ hh.co _) ?_);rintro e wx ⟨rfl,aE⟩;replace hh:=SX.below hh aE;replace rr:=Fr.below qb aE;clear kk;have kk:=hh.all)|(go_at_call 306;(with_reducible refine XAF (Vg _ (by first|exact hy|exact U6.wrap _|exact U6.zero|exact U6.one|exact U6.max|exact U6.cast qm|exact U6.cast hh.ok.H|exact U6.cast hh.ok.T|exact U6.cast hh.ok.F|exact U6.cast hh.ok.K|exact U6.cast hh.ok.N) hh qd) ?_);rintro e wx ⟨v9,b9,rfl,h9,r9⟩;replace hh:=h9;replace rr:=Rws.trans (a:=w) qb r9;clear kk;have kk:=hh.all));go_wp2_with (first|(go_at_call 277;(with_reducible refine XAF (kM _ hh) ?_);rintro e wx ⟨rfl,h9,r9⟩;replace hh:=h9;replace rr:=Rws.trans (a:=w) qb r9;clear kk;have kk:=hh.all));refine Xe ?_;exact⟨_,R,SX.mono qc qd,qb⟩
theorem Cu(h:SX 321 w s mb g c ⟨ar,aj,pc,az,aB,ai,aq,H,T,F,K,N,au,ay,to,aw,fr⟩ bad k)(hk:k<=999980):Z 327 #[(s,0)] w (ON s mb g c ⟨ar,aj,pc,az,aB,ai,aq,H,T,F,K,N,au,ay,to,aw,fr⟩ k w):=by
 have hlt:=h.lt;have hh:=h;have rr:=Rws.refl [s,mb,g] w;have kk:=h.all;clear h;go_enter func327,ntmps327;go_wp2_with fail;replace hh:=SX.drew hh;replace rr:=Rws.drew (a:=w) qb;clear kk;have kk:=hh.all;go_region_held3 (λw'=>bH w' s c (w'.cell? (s,0)=some (.pointer (mb,0)))) (first|exact Xk) (first|(go_at_call 302;(with_reducible refine XAF (mr hh.co _) ?_);rintro e wx ⟨rfl,aE⟩;replace hh:=SX.below hh aE;replace rr:=Fr.below qb aE;clear kk;have kk:=hh.all)|(go_at_call 301;(with_reducible refine XAF (Vh hh qd) ?_);rintro e wx ⟨ji,b9,rfl,h9,r9⟩;replace hh:=h9;replace rr:=Rws.trans (a:=w) qb r9;clear kk;have kk:=hh.all));go_wp2_with (first|(go_at_call 277;(with_reducible refine XAF (kM _ hh) ?_);rintro e wx ⟨rfl,h9,r9⟩;replace hh:=h9;replace rr:=Rws.trans (a:=w) qb r9;clear kk;have kk:=hh.all));go_ret;exact⟨_,_,R,SX.mono qc qd,qb⟩
theorem Cs(a:Int)(h:SX 321 w s mb g c ⟨ar,aj,pc,az,aB,ai,aq,H,T,F,K,N,au,ay,to,aw,fr⟩ bad k)(hk:k<=999980):Z 325 #[(s,0),I a] w (OH s mb g c ⟨ar,aj,pc,az,aB,ai,aq,H,T,F,K,N,au,ay,to,aw,fr⟩ k w):=by
 have hlt:=h.lt;have hh:=h;have rr:=Rws.refl [s,mb,g] w;have kk:=h.all;clear h;go_enter func325,ntmps325;go_wp2_with (first|(go_at_call 320;(with_reducible refine XAF (nH _ hh qd) ?_);rintro e wx ⟨v9,b9,dY,rfl,h9,r9⟩;replace hh:=h9;replace rr:=Rws.trans (a:=w) qb r9;clear kk;have kk:=hh.all)|(go_at_call 299;(with_reducible refine XAF (Aj _ qr _) ?_);rintro e wx ⟨a9,c9,q9,rfl,bF⟩;replace bF:=bF.symm;subst bF)|(go_at_call 277;(with_reducible refine XAF (kM _ hh) ?_);rintro e wx ⟨rfl,h9,r9⟩;replace hh:=h9;replace rr:=Rws.trans (a:=w) qb r9;clear kk;have kk:=hh.all));all_goals go_ret2
 all_goals exact⟨_,_,_,qm,R,SX.mono qc qd,qb⟩
theorem Cv(a:Int)(h:SX 321 w s mb g c ⟨ar,aj,pc,az,aB,ai,aq,H,T,F,K,N,au,ay,to,aw,fr⟩ bad k)(hk:k<=999980):Z 329 #[(s,0),I a] w (OT s mb g c ⟨ar,aj,pc,az,aB,ai,aq,H,T,F,K,N,au,ay,to,aw,fr⟩ k w):=by
 have hlt:=h.lt;have hh:=h;have rr:=Rws.refl [s,mb,g] w;have kk:=h.all;clear h;go_enter func329,ntmps329;go_wp2_with (first|(go_at_call 320;(with_reducible refine XAF (nH _ hh qd) ?_);rintro e wx ⟨v9,b9,dY,rfl,h9,r9⟩;replace hh:=h9;replace rr:=Rws.trans (a:=w) qb r9;clear kk;have kk:=hh.all));have hh9:=hh.pN dY;replace hh:=hh9;replace rr:=Fr.set rr 18 (J v9);generalize wx.setCell (s,18) (J v9)=W at hh rr ⊢;clear kk;have kk:=hh.all;go_wp2_with fail;replace hh:=SX.drew hh;replace rr:=Rws.drew (a:=w) qb;clear kk;have kk:=hh.all;go_region_held3 (λw'=>bH w' s c (w'.cell? (s,18)=J v9)) (first|exact Xk) (first|(go_at_call 277;(with_reducible refine XAF (kM _ hh) ?_);rintro e wx ⟨rfl,h9,r9⟩;replace hh:=h9;replace rr:=Rws.trans (a:=w) qb r9;clear kk;have kk:=hh.all));refine Xe ?_;exact⟨_,_,qm,R,SX.mono qc qd,qb⟩
end
section
variable{T0:TypeId}{w w':World}{s mb g:Nat}{c:Ch}{bad:Bool}{k:Nat}{ar aj pc az aB ai aq au ay to aw fr:Int}{H T F K N:Nat}
def Gd(t:Tk)(b:Bool):Prop:=b=false->(t.aB=0\/t.aB=2)/\(t.aB=2\/¬Nx t.pc->0<=t.ai/\t.ai<32)
theorem gB{t:Tk}{b:Bool}(h0:t.aB=0)(h:Nx t.pc):Gd t b:=λ_=>⟨.inl h0,λh1=>h1.elim (λh2=>by rw [h0] at h2;cases h2) λh2=>absurd h h2⟩
theorem Ir{t:Tk}{b:Bool}(h0:t.aB=0\/t.aB=2)(h:b=false->0<=t.ai/\t.ai<32):Gd t b:=λhb=>⟨h0,λ_=>h hb⟩
def gG(s mb g:Nat)(c:Ch)(aj fr:Int)(k:Nat)(w:World)(e:Ending)(w':World):Prop:=e=.returned (.tuple #[])/\∃(t':Tk)(b':Bool),SX 321 w' s mb g c t' b' k/\Fr s mb g w w'/\t'.aj=aj/\t'.fr=fr/\Gd t' b'
theorem kI(b:Bool){x y:Int}(hx:Nx x)(hy:Nx y):Nx (bif b then x else y):=by cases b<;>assumption
def MJ(s:Nat)(aw:Int)(w:World)(e:Ending)(w':World):Prop:=e=.returned (.tuple #[])/\(w'=w.setCell (s,10) (I 1)\/(w'=w.setCell (s,9) (I aw)/\Nx aw)\/w'=w.setCell (s,24) (.bool true))
theorem Vk(w:World)(s:Nat)(x y:Int)(h9:w.cell? (s,9)=I y)(f9:w.frozen? (s,9)=false):Z 276 #[(s,0),I x] w λe w'=>e=.returned (.tuple #[])/\w'=w.setCell (s,9) (I x):=by
 go_enter func276,ntmps276;go_wp2;go_end0;exact⟨R,R⟩
theorem Vj(w:World)(s:Nat)(y:Int)(h9:w.cell? (s,10)=I y)(f9:w.frozen? (s,10)=false):Z 275 #[(s,0)] w λe w'=>e=.returned (.tuple #[])/\w'=w.setCell (s,10) (I 1):=by
 go_enter func275,ntmps275;go_wp2;go_end0;exact⟨R,R⟩
theorem Ip(w:World)(s:Nat)(pc az aw:Int)(H:Nat)(h9:w.cell? (s,9)=I pc)(f9:w.frozen? (s,9)=false)(h10:w.cell? (s,10)=I az)(f10:w.frozen? (s,10)=false)
 (h22:w.cell? (s,22)=I aw)(Iw:w.cell? (s,14)=J H)(VE:w.cell? (s,24)=some (.bool false))(f24:w.frozen? (s,24)=false):
  Z 226 #[(s,0)] w (MJ s aw w):=by
 go_enter func226,ntmps226;go_wp2;go_step3;go_wp2;go_step3;go_wp2_with (first|(go_at_call 275;refine(Vj _ _ _ h10 f10).mono ?_;rintro e wx ⟨rfl,bF⟩)|(go_at_call 276;refine(Vk _ _ _ _ h9 f9).mono ?_;rintro e wx ⟨rfl,bF⟩)|(go_at_call 277;refine(fuMust _ _ _ _ VE f24).mono ?_;rintro e wx ⟨rfl,bF⟩));all_goals (first|rw [Exit.noGoto_normal]|rw [XCU])
 all_goals go_end0
 all_goals refine⟨R,?_⟩
 all_goals first
  |exact .inl rfl
  |exact .inr (.inr R)
  |exact .inr (.inl ⟨R,by unfold Nx;simp_all⟩)
theorem SX.rws{t:Tk}{gs:List Nat}(h:SX T0 w s mb g c t bad k)(hr:Rws gs w w')(h1:s∉gs)(h2:mb∉gs)(h3:g∉gs):SX T0 w' s mb g c t bad k:=by
 obtain⟨ws,n,hn,h⟩:=h;exact⟨ws,n,hn,h.blk.rws hr h1,⟨h.mem.head.rws hr h2,h.mem.row.rws hr h3,h.mem.ne⟩,h.ne1,h.pL,h.ok,h.len,h.u,h.c⟩
theorem SX.bj{t:Tk}(h:SX T0 w s mb g c t bad k):s<w.heap.size/\mb<w.heap.size/\g<w.heap.size:=by
 obtain⟨ws,n,hn,h⟩:=h;exact⟨h.lt,h.mem.head.lt,h.mem.row.lt⟩
theorem SX.only{t:Tk}{r:Nat}(h:SX T0 w s mb g c t bad k)(ho:Only r w w')(h1:s≠r)(h2:mb≠r)(h3:g≠r):SX T0 w' s mb g c t bad k:=h.rws ho.rws (by simpa using h1) qkp qkq
def MI(T0:TypeId)(s mb g:Nat)(c:Ch)(t:Tk)(k:Nat)(w:World)(e:Ending)(w':World):Prop:=∃(pc' fin':Int)(b':Bool),e=.returned (.tuple #[])/\SX T0 w' s mb g c { t with pc:=pc',az:=fin' } b' k/\Fr s mb g w w'/\(pc'=t.pc\/Nx pc')
theorem SX.pBad{t:Tk}(h:SX T0 w s mb g c t bad k)(x:Bool):SX T0 (w.setCell (s,24) (.bool x)) s mb g c t x k:=by obtain⟨ws,n,hn,h⟩:=h;exact⟨ws,n,hn,h.pBad x⟩
theorem Cq(h:SX 321 w s mb g c ⟨ar,aj,pc,az,aB,ai,aq,H,T,F,K,N,au,ay,to,aw,fr⟩ false k):Z 226 #[(s,0)] w (MI 321 s mb g c ⟨ar,aj,pc,az,aB,ai,aq,H,T,F,K,N,au,ay,to,aw,fr⟩ k w):=by
 refine(Ip w s pc az aw H (h.cell 9) (h.frz 9) (h.cell 10) (h.frz 10) (h.cell 22) (h.cell 14) (h.cell 24) (h.frz 24)).mono λe w' ⟨he,hw⟩=>?_;rcases hw with rfl|⟨rfl,h7⟩|rfl
 .exact⟨_,_,_,he,h.nX 1,Fr.set (Rws.refl _ _) _ _,.inl R⟩
 .exact⟨_,_,_,he,h.pPc _,Fr.set (Rws.refl _ _) _ _,.inr h7⟩
 .exact⟨pc,az,_,he,h.pBad true,Fr.set (Rws.refl _ _) _ _,.inl R⟩
end
end Go.Proofs.YtedefgjfgdcfdaaGreatDoor
