/- Walks and laws for TopPages. -/
import Derived.Test.YtedefgjfgdcfdaaGreatDoorQ20
import Derived.Test.YtedefgjfgdcfdaaGreatDoorQ21
import Derived.Test.YtedefgjfgdcfdaaGreatDoorQ13
namespace Go.Proofs.YtedefgjfgdcfdaaGreatDoor
open Go.RowKit Go.Proofs.Tryz
set_option maxRecDepth 100000
set_option maxHeartbeats 4000000
section
variable{T0:TypeId}{w w':World}{s mb g:Nat}{c:Ch}{bad:Bool}{k:Nat}{ar aj pc az aB ai aq au ay to aw fr:Int}{H T F K N:Nat}
theorem Q9(h:SX 318 w s mb g c ⟨ar,aj,52,az,0,ai,aq,H,T,F,K,N,au,ay,to,aw,fr⟩ false k)(hk:k<=999900):Z 253 #[(s,0)] w (bZ s mb g c aj fr (k+3) w):=by
 have hlt:=h.lt;have hh:=h;have rr:=Rws.refl [s,mb,g] w;have kk:=h.all;have wy:=h.bj;clear h;have _hk:=hk;go_enter func253,ntmps253;all_goals go_wp2_with (first|(go_at_call 312;(with_reducible refine XAF (GA hh) ?_);rintro e wx ⟨i9,o9,f9,l9,b9,rfl,h9,r9⟩;replace hh:=h9;replace rr:=Rws.trans (a:=w) qb r9;clear kk;have kk:=hh.all;have Bn:=ak.new wx 364 #[I 0,I 0,.bool false,.bool false])|(refine aU R 364 _ _ R _ R R Bn R qh qk ?_;intro w8 aC kb8;have kc8:=kb8.cell;have kf8:=kb8.frozen;have bj:=hh.bj;have sE:=rr.size;replace hh:=(hh.alloc (.cells #[I 0,I 0,.bool false,.bool false] 364)).only aC qd qd qd;replace rr:=Fr.only (Fr.alloc rr (.cells #[I 0,I 0,.bool false,.bool false] 364)) aC qd;clear kk Bn aC bj sE;have kk:=hh.all;have tZ:=kb8.lt;have CS:=hh.lt))
 obtain⟨l1,l2,l3⟩:=h9.bj;clear kc8 kf8;have nn:=kb8.four;replace kb8:=ak.drew kb8;replace hh:=SX.drew hh;replace rr:=Rws.drew (a:=w) qb;clear kk;have kk:=hh.all;go_region_held3 (λw'=>bH w' s c (w'.cell? (s,16)=J F/\w'.cell? (s,12)=I ai/\w'.cell? (s,13)=I aq)) (first|exact Xk) (first|(go_at_call 284;(with_reducible refine XAF (wW _ _ _) ?_);rintro e wx ⟨y9,yS,rfl,aE⟩;replace hh:=SX.below hh aE;replace rr:=Fr.below qb aE;clear kk;have kk:=hh.all;replace kb8:=kb8.below aE)|(go_at_call 286;(with_reducible refine XAF (L9 _ _ qm _ _) ?_);rintro e wx ⟨x9,B_,px,rfl,bF⟩;replace bF:=bF.symm;subst bF));clear nn;have nn:=kb8.four;go_wp2_with fail;have hlb:=kb8.lt;all_goals have nM:=hh.lt
 all_goals (refine bN 22 (wx.heap.size) ?_;intro hxc aA hxh hxn;simp only [List.take,List.drop];(repeat (any_goals (first|go_big_quiet_step (fail)|quiet_step (fail)|(refine XBS (λK hK=>?_);go_simp;split<;>(refine hK _ ?_;clear hK K)))));all_goals (refine XAG ?_;clear hxc aA hxh hxn;intro w1 hb1 hz1 hc1 hf1))
 all_goals
  replace hh:=SX.below (hh) hb1;replace rr:=Fr.below qb hb1;clear kk hc1 hf1;have kk:=hh.all
 all_goals
  replace kb8:=kb8.below hb1;clear nn;have nn:=kb8.four
 all_goals go_wp2_with (first|(go_at_call 309;(with_reducible refine XAF (ym _ hh) ?_);rintro e wx ⟨b8,hb8,rfl,h9,r9⟩;have Az:=XAA hb8;clear hb8;replace hh:=h9;replace rr:=Rws.trans (a:=w) qb r9;clear kk;have kk:=hh.all;replace kb8:=kb8.rws r9 qj;clear nn;have nn:=kb8.four))
 all_goals (try (refine Xe ?_;first|exact⟨R,_,_,SX.mono hh qd,qb,R,R,(gB R (by first|exact(show Nx 52 from qf)|exact kI _ qf qf))⟩))
 all_goals replace kb8:=ak.drew kb8
 all_goals
  replace hh:=SX.drew hh;replace rr:=Rws.drew (a:=w) qb;clear kk;have kk:=hh.all;go_region_held3 (λw'=>bH w' s c (w'.cell? (s,12)=I ai/\w'.cell? (s,13)=I aq)) (first|exact Xk) (first|(go_at_call 147;(with_reducible refine XAF (iM hh.co _ _ _) ?_);rintro e wx ⟨rfl,aE⟩;replace hh:=SX.below hh aE;replace rr:=Fr.below qb aE;clear kk;have kk:=hh.all;replace kb8:=kb8.below aE;clear nn;have nn:=kb8.four)|(go_at_call 313;(with_reducible refine XAF (BH _ _ qe hh qd) ?_);rintro e wx ⟨b9,rfl,h9,r9⟩;replace hh:=h9;replace rr:=Rws.trans (a:=w) qb r9;clear kk;have kk:=hh.all;replace kb8:=kb8.rws r9 qj;clear nn;have nn:=kb8.four))
 all_goals go_wp2_with (first|(go_at_call 310;(with_reducible refine XAF (jC _ hh) ?_);rintro e wx ⟨rfl,h9,r9⟩;replace hh:=h9;replace rr:=Rws.trans (a:=w) qb r9;clear kk;have kk:=hh.all)|(go_at_call 314;(with_reducible refine XAF (yk _ _ _ hh) ?_);rintro e wx ⟨rfl,h9,r9⟩;replace hh:=h9;replace rr:=Rws.trans (a:=w) qb r9;clear kk;have kk:=hh.all))
 all_goals refine Xe ?_
 all_goals exact⟨R,_,_,SX.mono qc qd,qb,R,R,(gB R (by first|exact(show Nx 52 from qf)|exact(show Nx 53 from qf)|exact(show Nx 54 from qf)|exact(show Nx 55 from qf)|exact kI _ qf qf))⟩
end
section
variable{T0:TypeId}{w w':World}{s mb g:Nat}{c:Ch}{bad:Bool}{k:Nat}{ar aj pc az aB ai aq au ay to aw fr:Int}{H T F K N:Nat}
def MC(r:Nat)(w:World)(e:Ending)(w':World):Prop:=∃b:Bool,e=.returned (.tuple #[])/\w'=w.setCell (r,2) (.bool b)
theorem Vr(w:World)(r bx s:Nat)(f:Bool)(pc:Int)(n2:w.cell? (r,2)=some (.bool f))(nf:w.frozen? (r,2)=false)(kb:w.cell? (bx,0)=some (.pointer (s,0)))(k9:w.cell? (s,9)=I pc):
  Z 316 #[(r,0),.pointer (bx,0)] w (MC r w):=by
 cases f;all_goals
  go_enter func316,ntmps316;go_wp2;go_end0;exact⟨_,R,R⟩
theorem abb{t:Tk}{W0 W:World}{r:Nat}{i o:Int}{f l:Bool}(h:SX T0 W s mb g c t bad k)(rr:Fr s mb g W0 W)(hb:ak W r 364 #[I i,I o,.bool f,.bool l])(h1:s≠r)(h2:mb≠r)(h3:g≠r)(hr:W0.heap.size<=r)(q:Int)(z:Bool):
  SX T0 ((W.setCell (r,0) (I q)).setCell (r,2) (.bool z)) s mb g c t bad k/\Fr s mb g W0 ((W.setCell (r,0) (I q)).setCell (r,2) (.bool z))/\
   ak ((W.setCell (r,0) (I q)).setCell (r,2) (.bool z)) r 364 #[I q,I o,.bool z,.bool l]:=
 ⟨(h.far (p:=⟨r,0,none⟩) h1 h2 h3 _).far (p:=⟨r,2,none⟩) h1 h2 h3 _,Rws.far (p:=⟨r,2,none⟩) (Rws.far (p:=⟨r,0,none⟩) rr hr _) hr _,(hb.aJ 0 _).aJ 2 _⟩
def OR(s mb g:Nat)(c:Ch)(t:Tk)(k:Nat)(w:World)(e:Ending)(w':World):Prop:=∃(v:Nat)(is b':Bool),v<U64/\e=.returned (.tuple #[J v,.bool is])/\SX 318 w' s mb g c t b' k/\Fr s mb g w w'
theorem BI(bx:Nat)(h:SX 318 w s mb g c ⟨ar,aj,pc,az,0,ai,aq,H,T,F,K,N,au,ay,to,aw,fr⟩ false k)(hk:k<=999900)(hbx:w.cell? (bx,0)=some (.pointer (s,0)))(hbl:bx<w.heap.size)(hbn:bx∉ [s,mb,g]):Z 315 #[(s,0),.func (.func 316) #[] #[(bx,0)]] w (OR s mb g c ⟨ar,aj,pc,az,0,ai,aq,H,T,F,K,N,au,ay,to,aw,fr⟩ (k+1) w):=by
 have hlt:=h.lt;have wy:=h.bj;have hh:=h;have rr:=Rws.refl [s,mb,g] w;have kk:=h.all;clear h;go_enter func315,ntmps315;all_goals go_wp2_with (first|(go_at_call 312;(with_reducible refine XAF (GA hh) ?_);rintro e wx ⟨i9,o9,f9,l9,b9,rfl,h9,r9⟩;replace hh:=h9;replace rr:=Rws.trans (a:=w) qb r9;clear kk;have kk:=hh.all;have Bn:=ak.new wx 364 #[I 0,I 0,.bool false,.bool false])|(refine aU R 364 _ _ R _ R R Bn R qh qk ?_;intro w8 aC kb8;have kc8:=kb8.cell;have kf8:=kb8.frozen;have bj:=hh.bj;have sE:=rr.size;replace hh:=(hh.alloc (.cells #[I 0,I 0,.bool false,.bool false] 364)).only aC qd qd qd;replace rr:=Fr.only (Fr.alloc rr (.cells #[I 0,I 0,.bool false,.bool false] 364)) aC qd;clear kk Bn aC bj sE;have kk:=hh.all;have tZ:=kb8.lt;have CS:=hh.lt)|(go_at_call 316;fail))
 have sz1:=r9.size;obtain⟨l1,l2,l3⟩:=h9.bj;have JM:w8.cell? (bx,0)=some (.pointer (s,0)):=(XAP (w:=w) (rr.block bx hbl hbn)).trans hbx;clear kc8 kf8;generalize wrap64 (i9-1)=q;have De:=kb8.aJ 0 (I q);refine(Vr _ _ bx s f9 pc (De.cell 2) (De.frozen 2) ((World.cell?_setCell_far w8 ⟨wx.heap.size,0,none⟩ ⟨bx,0,none⟩ _ (by show wx.heap.size≠bx;omega)).trans JM) ((World.cell?_setCell_far w8 ⟨wx.heap.size,0,none⟩ ⟨s,9,none⟩ _ (by show wx.heap.size≠s;omega)).trans (hh.cell 9))).mono ?_;rintro e wz ⟨z,rfl,rfl⟩;obtain⟨a1,a2,a3⟩:=abb hh rr kb8 qd qd qd qd q z;clear kk kb8 hh rr De JM;generalize (World.setCell _ _ _).setCell _ _=W at a1 a2 a3 ⊢;have hh:=a1;have rr:=a2;have kb8:=a3;clear a1 a2 a3;have kk:=hh.all;have nn:=kb8.four;all_goals go_wp2_with (first|(go_at_call 297;(with_reducible refine XAF (L_ _ _ _ _ _) ?_);rintro e wx ⟨x9,B_,px,rfl,aE⟩;replace hh:=SX.below hh aE;replace rr:=Fr.below qb aE;clear kk;have kk:=hh.all;replace kb8:=kb8.below aE;clear nn;have nn:=kb8.four))
 have hlb:=kb8.lt;all_goals have nM:=hh.lt
 all_goals (refine bN 24 (wx.heap.size) ?_;intro hxc aA hxh hxn;simp only [List.take,List.drop];(repeat (any_goals (first|go_big_quiet_step (fail)|quiet_step (fail)|(refine XBS (λK hK=>?_);go_simp;split<;>(refine hK _ ?_;clear hK K)))));all_goals (refine XAG ?_;clear hxc aA hxh hxn;intro w1 hb1 hz1 hc1 hf1))
 all_goals
  replace hh:=SX.below (hh) hb1;replace rr:=Fr.below qb hb1;clear kk hc1 hf1;have kk:=hh.all
 all_goals go_wp2_with (first|(go_at_call 309;(with_reducible refine XAF (ym _ hh) ?_);rintro e wx ⟨b8,hb8,rfl,h9,r9⟩;have Az:=XAA hb8;clear hb8;replace hh:=h9;replace rr:=Rws.trans (a:=w) qb r9;clear kk;have kk:=hh.all))
 all_goals (try (go_ret2;exact⟨_,_,_,(by decide:(0:Nat)<U64),R,SX.mono hh qd,qb⟩))
 all_goals
  replace hh:=SX.drew hh;replace rr:=Rws.drew (a:=w) qb;clear kk;have kk:=hh.all;go_region_held3 (λw'=>bH w' s c (w'.cell? (s,12)=I ai/\w'.cell? (s,13)=I aq/\w'.cell? (s,16)=J F/\w'.cell? (s,17)=J K)) (first|exact Xk) (first|(go_at_call 198;(with_reducible refine XAF (fX hh.co _ _) ?_);rintro e wx ⟨rfl,aE⟩;replace hh:=SX.below hh aE;replace rr:=Fr.below qb aE;clear kk;have kk:=hh.all)|(go_at_call 319;(with_reducible refine XAF (Ri _ _ _ _ _ qe qe qe qe hh qd) ?_);rintro e wx ⟨ji,b9,hi9,rfl,h9,r9⟩;have uP:=XAA hi9;clear hi9;replace hh:=h9;replace rr:=Rws.trans (a:=w) qb r9;clear kk;have kk:=hh.all))
 all_goals go_wp2
 all_goals (go_ret2;exact⟨_,_,_,px,R,SX.mono hh qd,qb⟩)
end
section
variable{T0:TypeId}{w w':World}{s mb g:Nat}{c:Ch}{bad:Bool}{k:Nat}{ar aj pc az aB ai aq au ay to aw fr:Int}{H T F K N:Nat}
theorem QR(h:SX 318 w s mb g c ⟨ar,aj,53,az,0,ai,aq,H,T,F,K,N,au,ay,to,aw,fr⟩ false k)(hk:k<=999900):Z 254 #[(s,0)] w (bZ s mb g c aj fr (k+3) w):=by
 have hlt:=h.lt;have hh:=h;have rr:=Rws.refl [s,mb,g] w;have kk:=h.all;have wy:=h.bj;have hmf:= @iv;have hB:=ak.new w 316 #[(s,0)];clear h;have _hk:=hk;go_enter func254,ntmps254;go_wp2_with fail;refine XAF (BI w.heap.size (hh.alloc _) qd (hB.cell 0) ql qj) ?_;rintro e wx ⟨v9,ji,b9,dY,rfl,h9,r9⟩;have iP:=hB.rws r9 qj;have vF:=ak.drew iP;have kB:wx.cell? (w.heap.size,0)=some (.pointer (s,0)):=iP.cell 0;have kD:wx.drew.cell? (w.heap.size,0)=some (.pointer (s,0)):=vF.cell 0;replace hh:=h9;replace rr:=Rws.trans (a:=w) (Fr.alloc rr _) r9;clear kk;have kk:=hh.all;cases ji
 .go_wp2_with fail;have hlb:=iP.lt;all_goals have nM:=hh.lt
  all_goals (refine bN 7 (wx.heap.size) ?_;intro hxc aA hxh hxn;simp only [List.take,List.drop];(repeat (any_goals (first|go_big_quiet_step (fail)|quiet_step (fail)|(refine XBS (λK hK=>?_);go_simp;split<;>(refine hK _ ?_;clear hK K)))));all_goals (refine XAG ?_;clear hxc aA hxh hxn;intro w1 hb1 hz1 hc1 hf1))
  all_goals
   replace hh:=SX.below (hh) hb1;replace rr:=Fr.below qb hb1;clear kk hc1 hf1;have kk:=hh.all
  all_goals go_wp2_with (first|(go_at_call 314;(with_reducible refine XAF (yk _ _ _ hh) ?_);rintro e wx ⟨rfl,h9,r9⟩;replace hh:=h9;replace rr:=Rws.trans (a:=w) qb r9;clear kk;have kk:=hh.all))
  all_goals refine Xe ?_
  all_goals exact⟨R,_,_,SX.mono qc qd,qb,R,R,(gB R qbr)⟩
 .go_wp2_with (first|(go_at_call 317;(with_reducible refine XAF (Rj hh) ?_);rintro e wx ⟨rfl,h9,r9⟩;replace hh:=h9;replace rr:=Rws.trans (a:=w) qb r9;clear kk;have kk:=hh.all));all_goals refine Xe ?_
  all_goals exact⟨R,_,_,SX.mono qc qd,qb,R,R,(gB R (by first|exact(show Nx 53 from qf)|exact kI _ qf qf))⟩
theorem QS(h:SX 318 w s mb g c ⟨ar,aj,54,az,0,ai,aq,H,T,F,K,N,au,ay,to,aw,fr⟩ false k)(hk:k<=999900):Z 254 #[(s,0)] w (bZ s mb g c aj fr (k+3) w):=by
 have hlt:=h.lt;have hh:=h;have rr:=Rws.refl [s,mb,g] w;have kk:=h.all;have wy:=h.bj;have hmf:= @iv;have hB:=ak.new w 316 #[(s,0)];clear h;have _hk:=hk;go_enter func254,ntmps254;go_wp2_with fail;refine XAF (BI w.heap.size (hh.alloc _) qd (hB.cell 0) ql qj) ?_;rintro e wx ⟨v9,ji,b9,dY,rfl,h9,r9⟩;have iP:=hB.rws r9 qj;have vF:=ak.drew iP;have kB:wx.cell? (w.heap.size,0)=some (.pointer (s,0)):=iP.cell 0;have kD:wx.drew.cell? (w.heap.size,0)=some (.pointer (s,0)):=vF.cell 0;replace hh:=h9;replace rr:=Rws.trans (a:=w) (Fr.alloc rr _) r9;clear kk;have kk:=hh.all;cases ji
 .go_wp2_with fail;have hlb:=iP.lt;all_goals have nM:=hh.lt
  all_goals (refine bN 7 (wx.heap.size) ?_;intro hxc aA hxh hxn;simp only [List.take,List.drop];(repeat (any_goals (first|go_big_quiet_step (fail)|quiet_step (fail)|(refine XBS (λK hK=>?_);go_simp;split<;>(refine hK _ ?_;clear hK K)))));all_goals (refine XAG ?_;clear hxc aA hxh hxn;intro w1 hb1 hz1 hc1 hf1))
  all_goals
   replace hh:=SX.below (hh) hb1;replace rr:=Fr.below qb hb1;clear kk hc1 hf1;have kk:=hh.all
  all_goals go_wp2_with (first|(go_at_call 314;(with_reducible refine XAF (yk _ _ _ hh) ?_);rintro e wx ⟨rfl,h9,r9⟩;replace hh:=h9;replace rr:=Rws.trans (a:=w) qb r9;clear kk;have kk:=hh.all))
  all_goals refine Xe ?_
  all_goals exact⟨R,_,_,SX.mono qc qd,qb,R,R,(gB R qbr)⟩
 .go_wp2_with (first|(go_at_call 310;(with_reducible refine XAF (jC _ hh) ?_);rintro e wx ⟨rfl,h9,r9⟩;replace hh:=h9;replace rr:=Rws.trans (a:=w) qb r9;clear kk;have kk:=hh.all));all_goals refine Xe ?_
  all_goals exact⟨R,_,_,SX.mono qc qd,qb,R,R,(gB R (by first|exact(show Nx 60 from qf)|exact kI _ qf qf))⟩
theorem QT(h:SX 318 w s mb g c ⟨ar,aj,56,az,0,ai,aq,H,T,F,K,N,au,ay,to,aw,fr⟩ false k)(hk:k<=999900):Z 254 #[(s,0)] w (bZ s mb g c aj fr (k+3) w):=by
 have hlt:=h.lt;have hh:=h;have rr:=Rws.refl [s,mb,g] w;have kk:=h.all;have wy:=h.bj;have hmf:= @iv;have hB:=ak.new w 316 #[(s,0)];clear h;have _hk:=hk;go_enter func254,ntmps254;go_wp2_with fail;refine XAF (BI w.heap.size (hh.alloc _) qd (hB.cell 0) ql qj) ?_;rintro e wx ⟨v9,ji,b9,dY,rfl,h9,r9⟩;have iP:=hB.rws r9 qj;have vF:=ak.drew iP;have kB:wx.cell? (w.heap.size,0)=some (.pointer (s,0)):=iP.cell 0;have kD:wx.drew.cell? (w.heap.size,0)=some (.pointer (s,0)):=vF.cell 0;replace hh:=h9;replace rr:=Rws.trans (a:=w) (Fr.alloc rr _) r9;clear kk;have kk:=hh.all;cases ji
 .go_wp2_with fail;have hlb:=iP.lt;all_goals have nM:=hh.lt
  all_goals (refine bN 7 (wx.heap.size) ?_;intro hxc aA hxh hxn;simp only [List.take,List.drop];(repeat (any_goals (first|go_big_quiet_step (fail)|quiet_step (fail)|(refine XBS (λK hK=>?_);go_simp;split<;>(refine hK _ ?_;clear hK K)))));all_goals (refine XAG ?_;clear hxc aA hxh hxn;intro w1 hb1 hz1 hc1 hf1))
  all_goals
   replace hh:=SX.below (hh) hb1;replace rr:=Fr.below qb hb1;clear kk hc1 hf1;have kk:=hh.all
  all_goals go_wp2_with (first|(go_at_call 314;(with_reducible refine XAF (yk _ _ _ hh) ?_);rintro e wx ⟨rfl,h9,r9⟩;replace hh:=h9;replace rr:=Rws.trans (a:=w) qb r9;clear kk;have kk:=hh.all))
  all_goals refine Xe ?_
  all_goals exact⟨R,_,_,SX.mono qc qd,qb,R,R,(gB R qbr)⟩
 .have n13:wx.cell? (s,13)=I aq:=hh.cell 13;have f16:=hh.frz 16;have f17:=hh.frz 17;go_wp2_with fail;go_region;all_goals go_wp2_with (first|(go_at_call 310;(with_reducible refine XAF (jC _ (SX.drew ((hh.wH (U6.wrap _)).pK dY))) ?_);rintro e wx ⟨rfl,h9,r9⟩;replace hh:=h9;replace rr:=Rws.trans (a:=w) qb r9;clear kk;have kk:=hh.all))
  all_goals refine Xe ?_
  all_goals exact⟨R,_,_,SX.mono qc qd,qb,R,R,(gB R (by first|exact(show Nx 58 from qf)|exact kI _ qf qf))⟩
end
section
variable{w:World}{s mb g:Nat}{c:Ch}{k:Nat}{ar aj pc az ai aq au ay to aw fr:Int}{H T F K N n:Nat}{ws:List Nat}
theorem Rc(h:SX 318 w s mb g c ⟨ar,aj,67,az,0,ai,aq,H,T,F,K,N,au,ay,to,aw,fr⟩ false k)(hk:k<=999900):Z 257 #[(s,0)] w (bZ s mb g c aj fr (k+3) w):=by
 cases h1:(to != -1)
 .exact Rd h hk h1
 .exact Re h hk h1
theorem aed{p:Prop}(x:p:=by
 have HC:=XAA hc;have hlt:=h.lt;have k9:World.cell? _ ⟨_,9,none⟩=I _:=h.cell 9;clear h hc;go_enter func206,ntmps206;go_wp2_with ((first|go_at_call 254|go_at_call 256|go_at_call 255|go_at_call 253|go_at_call 257);refine XAF HC.out ?_;rintro e wx ⟨rfl,hq⟩;have HQ:=XAA hq;clear hq k9);refine Xe ?_;exact⟨R,HQ.out⟩):p:=x
theorem Qx(h:SX 318 w s mb g c ⟨ar,aj,pc,az,0,ai,aq,H,T,F,K,N,au,ay,to,aw,fr⟩ false k)(hk:k<=999900)(hp:50<=pc/\pc<=68):Z 206 #[(s,0)] w (bZ s mb g c aj fr (k+3) w):=by
 rcases (by omega:pc=50\/pc=51\/pc=52\/pc=53\/pc=54\/pc=55\/pc=56\/pc=57\/pc=58\/pc=59\/pc=60\/pc=61\/pc=62\/pc=63\/pc=64\/pc=65\/pc=66\/pc=67\/pc=68) with rfl|rfl|rfl|rfl|rfl|rfl|rfl|rfl|rfl|rfl|rfl|rfl|rfl|rfl|rfl|rfl|rfl|rfl|rfl
 .have hc:=Q7 h hk;exact aed
 .have hc:=Q8 h hk;exact aed
 .have hc:=Q9 h hk;exact aed
 .have hc:=QR h hk;exact aed
 .have hc:=QS h hk;exact aed
 .have hc:=QY h hk;exact aed
 .have hc:=QT h hk;exact aed
 .have hc:=QZ h hk;exact aed
 .have hc:=Q2 h hk;exact aed
 .have hc:=Q3 h hk;exact aed
 .have hc:=QU h hk;exact aed
 .have hc:=QV h hk;exact aed
 .have hc:=QW h hk;exact aed
 .have hc:=QX h hk;exact aed
 .have hc:=Q_ h hk;exact aed
 .have hc:=Ra h hk;exact aed
 .have hc:=Rb h hk;exact aed
 .have hc:=Rc h hk;exact aed
 .have hc:=Rf h hk;exact aed
theorem Qo(w:World)(hM:MW w mb g c ws n)(hn:n<=999000)(t:Tk)(ht:cR t)(h0:t.az=0)(h1:t.aB=0)(hp:50<=t.pc/\t.pc<=68):Z 156 #[(mb,0),dh c,aH t] w (vb t mb g c (n+3) w):=by
 have hl:=hM.lt;have hl2:=hM.jN;have hwd:((c.words:Int)==0)=false:=qbd
 have HM:=XAA hM;obtain⟨ar,aj,pc,az,aB,ai,aq,H,T,F,K,N,au,ay,to,aw,fr⟩:=t;dsimp only at h0 h1 hp;subst h0 h1;have HT:=XAA ht;have HN:=XAA hn;have hp1:¬pc<50:=qd
 have hp2:¬68<pc:=qd;have HP:=XAA hp;clear hM ht hp hn;go_enter func156,ntmps156;go_wp2_with (first|(go_at_call 202;refine Xr (pJ _ (HM.out.below qa)) ?_)|(go_at_call 203;(with_reducible refine(eH HM.out.c _).mono ?_);rintro e w2 ⟨rfl,hb1⟩;have Bt:ak w2 (w.heap.size+1) 210 #[I ar,I aj,I pc,I 0,I 0,I ai,I aq,J H,J T,J F,J K,J N,I au,I ay,I to,I aw,I fr]:=((ak.new2 w _ 210 _).alloc _).below hb1;have Br:ak w2 (w.heap.size+1+1) 210 #[I 0,I 0,I 0,I 0,I 0,I 0,I 0,J 0,J 0,J 0,J 0,J 0,I 0,I 0,I 0,I 0,I 0]:=(ak.g_ w _ _ 210 _).below hb1;have rc:w2.rangeAt w.heap.size 0 [I c.C,I 32,I c.O,I 1,I 2,J c.key]:=ak.range ((((ak.new w 249 _).alloc _).alloc _).below hb1);have rt:w2.rangeAt (w.heap.size+1) 0 [I ar,I aj,I pc,I 0,I 0,I ai,I aq,J H,J T,J F,J K,J N,I au,I ay,I to,I aw,I fr]:=ak.range Bt;have aT:w2.cell? (w.heap.size+1,3)=I 0:=Bt.cell 3;have dN:w2.cell? (w.heap.size+1,4)=I 0:=Bt.cell 4;have bt:w2.cell? (w.heap.size+1,2)=I pc:=Bt.cell 2;have hbw:Below w w w2:=qa;clear hb1)|(refine wpList_load_mid R 210 _ R (w.heap.size+1) 0 R [I ar,I aj,I pc,I 0,I 0,I ai,I aq,J H,J T,J F,J K,J N,I au,I ay,I to,I aw,I fr] _ rt XAQ R qh ?_)|(refine wpList_load_mid R 249 _ R w.heap.size 0 R [I c.C,I 32,I c.O,I 1,I 2,J c.key] _ rc XCC R qh ?_));have hM2:=HM.out.below hbw;have hz:=hbw.size;have lr:=Br.lt;have hs:SX 318 (w2.alloc (.cells #[(mb,0),I c.C,I 32,I c.O,I 1,I 2,J c.key,I ar,I aj,I pc,I 0,I 0,I ai,I aq,J H,J T,J F,J K,J N,I au,I ay,I to,I aw,I fr,.bool false] 318)) w2.heap.size mb g c ⟨ar,aj,pc,0,0,ai,aq,H,T,F,K,N,au,ay,to,aw,fr⟩ false n:=SX.of (hM2.step _ HT.out.ok) (XAB _);have hr0:Rws [mb,g] w (w2.alloc (.cells #[(mb,0),I c.C,I 32,I c.O,I 1,I 2,J c.key,I ar,I aj,I pc,I 0,I 0,I ai,I aq,J H,J T,J F,J K,J N,I au,I ay,I to,I aw,I fr,.bool false] 318)):=Rws.of_below _ (hbw.alloc hz _);replace Bt:=Bt.alloc (.cells #[(mb,0),I c.C,I 32,I c.O,I 1,I 2,J c.key,I ar,I aj,I pc,I 0,I 0,I ai,I aq,J H,J T,J F,J K,J N,I au,I ay,I to,I aw,I fr,.bool false] 318);replace Br:=Br.alloc (.cells #[(mb,0),I c.C,I 32,I c.O,I 1,I 2,J c.key,I ar,I aj,I pc,I 0,I 0,I ai,I aq,J H,J T,J F,J K,J N,I au,I ay,I to,I aw,I fr,.bool false] 318);clear rc rt aT dN bt;refine(Qx hs (by have:=HN.out;omega) HP.out).mono ?_;rintro e w4 ⟨rfl,x,bd,hh,r4,gQ,hfr,hg⟩;have iE:=Bt.rws r4 qj;have ld:=Br.rws r4 qj;have hr4:=Fr.drop r4 hr0 hz;have py:=hr4.size;have l4:=hh.lt;clear Bt Br hs hr0 r4;have kb:w4.cell? (w2.heap.size,24)=some (.bool bd):=hh.cell 24;have HX:=XAA gQ;have HG:=XAA hg;clear gQ hfr hg;cases bd
 .have rs:w4.rangeAt w2.heap.size 7 [I x.ar,I x.aj,I x.pc,I x.az,I x.aB,I x.ai,I x.aq,J x.H,J x.T,J x.F,J x.K,J x.N,I x.au,I x.ay,I x.to,I x.aw,I x.fr]:=SX.uA hh;go_wp2_with (first|(refine wpList_load_mid R 210 _ R w2.heap.size 7 R [I x.ar,I x.aj,I x.pc,I x.az,I x.aB,I x.ai,I x.aq,J x.H,J x.T,J x.F,J x.K,J x.N,I x.au,I x.ay,I x.to,I x.aw,I x.fr] _ rs XAQ R qh ?_)|(refine aU rfl 210 _ _ rfl _ rfl rfl (ld) rfl qh qk ?_;intro w8 aC kb8;have kc8:=kb8.cell));refine XAI (v:=.tuple #[aH x,I 0]) (dc rfl _ _ qu qu (cn 210 kb8 XAQ rfl qh)) rfl ?_;exact Ak hh.mw (λ_=>cR.of hh.ok HG.out) hh.ok HX.out hr4 aC qd qd qd
 .have dN:w4.cell? (w.heap.size+1,3)=I 0:=iE.cell 3;have Cn:=iE.frozen 3;have rs:(w4.setCell (w.heap.size+1,3) (I 3)).rangeAt (w.heap.size+1) 0 [I ar,I aj,I pc,I 3,I 0,I ai,I aq,J H,J T,J F,J K,J N,I au,I ay,I to,I aw,I fr]:=(iE.aJ 3 (I 3)).range;go_wp2_with (first|(refine wpList_load_mid R 210 _ R (w.heap.size+1) 0 R [I ar,I aj,I pc,I 3,I 0,I ai,I aq,J H,J T,J F,J K,J N,I au,I ay,I to,I aw,I fr] _ rs XAQ R qh ?_)|(refine aU rfl 210 _ _ rfl _ rfl rfl ((ld.far (p:=⟨w.heap.size+1,3,none⟩) qdr _)) rfl qh qk ?_;intro w8 aC kb8;have kc8:=kb8.cell));refine XAI (v:=.tuple #[aH ⟨ar,aj,pc,3,0,ai,aq,H,T,F,K,N,au,ay,to,aw,fr⟩,I 0]) (dc rfl _ _ qu qu (cn 210 kb8 XAQ rfl qh)) rfl ?_;have ht:=HT.out.ok;obtain⟨Ei,n4,hn4,hm4⟩:=hh.mw;exact Ak ⟨Ei,n4,hn4,hm4.far qfk qfs _⟩ (λh=>absurd h (show ¬(3:Int)=0 from qf)) ⟨ht.H,ht.T,ht.F,ht.K,ht.N⟩ R (hr4.far qef _) aC qd qd qd
theorem Qn(w:World)(hM:MW w mb g c ws n)(hn:n<=999000)(t:Tk)(ht:cR t)(h0:t.az=0)(h1:t.aB=0)(hp:¬(50<=t.pc/\t.pc<=68)):Z 156 #[(mb,0),dh c,aH t] w λe w'=>e=.returned (.tuple #[aH aO,I 292])/\Below w w w':=by
 have hl:=hM.lt;have hl2:=hM.jN;have hwd:((c.words:Int)==0)=false:=qbd
 have HM:=XAA hM;obtain⟨ar,aj,pc,az,aB,ai,aq,H,T,F,K,N,au,ay,to,aw,fr⟩:=t;dsimp only at h0 h1 hp;subst h0 h1;have HT:=XAA ht;have HN:=XAA hn;clear hM ht hn;rcases (by omega:pc<50\/(¬pc<50/\68<pc)) with hp1|⟨hp1,hp2⟩
 all_goals
  clear hp;go_enter func156,ntmps156;go_wp2_with (first|(go_at_call 202;refine Xr (pJ _ (HM.out.below qa)) ?_)|(go_at_call 203;(with_reducible refine(eH HM.out.c _).mono ?_);rintro e w2 ⟨rfl,hb1⟩;have Bt:ak w2 (w.heap.size+1) 210 #[I ar,I aj,I pc,I 0,I 0,I ai,I aq,J H,J T,J F,J K,J N,I au,I ay,I to,I aw,I fr]:=((ak.new2 w _ 210 _).alloc _).below hb1;have Br:ak w2 (w.heap.size+1+1) 210 #[I 0,I 0,I 0,I 0,I 0,I 0,I 0,J 0,J 0,J 0,J 0,J 0,I 0,I 0,I 0,I 0,I 0]:=(ak.g_ w _ _ 210 _).below hb1;have rc:w2.rangeAt w.heap.size 0 [I c.C,I 32,I c.O,I 1,I 2,J c.key]:=ak.range ((((ak.new w 249 _).alloc _).alloc _).below hb1);have rt:w2.rangeAt (w.heap.size+1) 0 [I ar,I aj,I pc,I 0,I 0,I ai,I aq,J H,J T,J F,J K,J N,I au,I ay,I to,I aw,I fr]:=ak.range Bt;have aT:w2.cell? (w.heap.size+1,3)=I 0:=Bt.cell 3;have dN:w2.cell? (w.heap.size+1,4)=I 0:=Bt.cell 4;have bt:w2.cell? (w.heap.size+1,2)=I pc:=Bt.cell 2;have hbw:Below w w w2:=qa;clear hb1)|(refine wpList_load_mid R 210 _ R (w.heap.size+1) 0 R [I ar,I aj,I pc,I 0,I 0,I ai,I aq,J H,J T,J F,J K,J N,I au,I ay,I to,I aw,I fr] _ rt XAQ R qh ?_)|(refine wpList_load_mid R 249 _ R w.heap.size 0 R [I c.C,I 32,I c.O,I 1,I 2,J c.key] _ rc XCC R qh ?_)|(refine aU R 210 _ _ R _ R R (Br) R qh qk ?_;intro w8 aC kb8;have kc8:=kb8.cell));refine XAI (v:=.tuple #[aH aO,I 292]) (dc R _ _ qu qu (cn 210 kb8 XAQ R qh)) R ?_;exact⟨R,aI hbw aC qd⟩
end
end Go.Proofs.YtedefgjfgdcfdaaGreatDoor
