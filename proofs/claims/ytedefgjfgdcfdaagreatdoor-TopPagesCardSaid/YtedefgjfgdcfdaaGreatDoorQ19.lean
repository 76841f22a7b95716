/- Walks and laws for TopPages. -/
import Derived.Test.YtedefgjfgdcfdaaGreatDoorQ13
import Derived.Shelf.Abstract
namespace Go.Proofs.YtedefgjfgdcfdaaGreatDoor
open Go.RowKit Go.Proofs.Tryz
set_option maxRecDepth 100000
set_option maxHeartbeats 4000000
section
variable{w w':World}{s mb g:Nat}{c:Ch}{E:St}
theorem TS(w:World)(h:FlW w s mb g c E)(hn:E.n<=1000000)(hg:fD w s mb g)(hp:E.t.pc=30):Z 238 #[(s,0)] w λe w'=>
  e=.returned (.tuple #[])/\FlW w' s mb g c (tL c E)/\Fr s mb g w w':=by
 have hlt:=h.lt;have hh:=h;have rr:=Rws.refl [s,mb,g] w;clear h;go_enter func238,ntmps238;go_wp2_with fail;replace hh:=hh.drew;replace rr:=Rws.drew rr;go_region_held3 (λw'=>bH w' s c (w'.cell? (s,8)=I E.t.aj)) (first|exact⟨hh.cell 1,hh.cell 2,hh.cell 3,hh.cell 4,hh.cell 5,hh.cell 6,hh.cell 8⟩|(have hq:=hh.pT hv;exact Xl)) (first|(go_at_call 298;refine(mx hh.c E.t.aj _).mono ?_;rintro e w1 ⟨rfl,hb1⟩;replace hh:=hh.below hb1;replace rr:=Fr.below rr hb1)|(go_at_call 294;refine Xr (flBehind _ (dO c E.t.aj) qbe) ?_)|(go_at_call 291;refine(flLoad _ hh hn (bh (dO c E.t.aj))).mono ?_;rintro e w3 ⟨rfl,h3,r3⟩;have hv:=fP hh (bh (dO c E.t.aj));replace hh:=h3;replace rr:=Rws.trans rr r3;have f3:=hh.frz 15;have g3:w3.cell? (s,15)=J E.t.T:=hh.cell 15));replace hh:=hh.pT hv;replace rr:=Fr.set rr 15 (J ((loadS (bh (dO c E.t.aj)) E).1:Int));generalize w3.setCell (s,15) (J ((loadS (bh (dO c E.t.aj)) E).1:Int))=W at hh rr ⊢;have k9:W.cell? (s,9)=I E.t.pc:=hh.cell 9;have f9:=hh.frz 9
 go_wp2_with (first|(go_at_call 293;(refine(mF _ 30 hh (hg.fr rr) hp qd).mono ?_);rintro e w8 ⟨rfl,h8,r8⟩;replace hh:=h8;replace rr:=Rws.trans rr r8));refine Xe ?_;exact⟨R,hh.eq (XAK (St.sPc _) (XAK eL hp).symm),rr⟩
theorem TK(w:World)(h:FlW w s mb g c E)(hn:E.n<=1000000)(hg:fD w s mb g)(hp:E.t.pc=41):Z 246 #[(s,0)] w λe w'=>
  e=.returned (.tuple #[])/\FlW w' s mb g c (tH c E)/\Fr s mb g w w':=by
 have hlt:=h.lt;have hh:=h;have rr:=Rws.refl [s,mb,g] w;clear h;go_enter func246,ntmps246;go_wp2_with fail;replace hh:=hh.drew;replace rr:=Rws.drew rr;go_region_held3 (λw'=>bH w' s c (w'.cell? (s,8)=I E.t.aj)) (first|exact⟨hh.cell 1,hh.cell 2,hh.cell 3,hh.cell 4,hh.cell 5,hh.cell 6,hh.cell 8⟩|(have hq:=hh.pT hv;exact Xl)) (first|(go_at_call 280;refine(nj hh.c E.t.aj _).mono ?_;rintro e w1 ⟨rfl,hb1⟩;replace hh:=hh.below hb1;replace rr:=Fr.below rr hb1)|(go_at_call 294;refine Xr (flBehind _ (dm c E.t.aj) qbe) ?_)|(go_at_call 291;refine(flLoad _ hh hn (bh (dm c E.t.aj))).mono ?_;rintro e w3 ⟨rfl,h3,r3⟩;have hv:=fP hh (bh (dm c E.t.aj));replace hh:=h3;replace rr:=Rws.trans rr r3;have f3:=hh.frz 15;have g3:w3.cell? (s,15)=J E.t.T:=hh.cell 15));replace hh:=hh.pT hv;replace rr:=Fr.set rr 15 (J ((loadS (bh (dm c E.t.aj)) E).1:Int));generalize w3.setCell (s,15) (J ((loadS (bh (dm c E.t.aj)) E).1:Int))=W at hh rr ⊢;have k9:W.cell? (s,9)=I E.t.pc:=hh.cell 9;have f9:=hh.frz 9
 go_wp2_with (first|(go_at_call 293;(refine(mF _ 41 hh (hg.fr rr) hp qd).mono ?_);rintro e w8 ⟨rfl,h8,r8⟩;replace hh:=h8;replace rr:=Rws.trans rr r8));refine Xe ?_;exact⟨R,hh.eq (XAK (St.sPc _) (XAK eL hp).symm),rr⟩
theorem TM(w:World)(h:FlW w s mb g c E)(hn:E.n<=1000000):Z 239 #[(s,0)] w λe w'=>
  e=.returned (.tuple #[])/\FlW w' s mb g c (oT c E)/\Fr s mb g w w':=by
 have hlt:=h.lt;have hh:=h;have rr:=Rws.refl [s,mb,g] w;obtain⟨a,b,q,hq⟩:∃a b q,fQ ((loadS (dO c E.t.aj) E).1:Int)=(a,b,q):=⟨_,_,_,R⟩;have HQ:=XAA hq;have rn:=XAA hq;clear hq;clear h;go_enter func239,ntmps239;go_wp2_with fail;replace hh:=hh.drew;replace rr:=Rws.drew rr;go_region_held3 (λw'=>bH w' s c (w'.cell? (s,8)=I E.t.aj)) (first|exact Xk) (first|(go_at_call 298;refine(mx hh.c E.t.aj _).mono ?_;rintro e w1 ⟨rfl,hb1⟩;replace hh:=hh.below hb1;replace rr:=Fr.below rr hb1)|(go_at_call 291;refine(flLoad _ hh hn (dO c E.t.aj)).mono ?_;rintro e w3 ⟨rfl,h3,r3⟩;have hv:=fP hh (dO c E.t.aj);replace hh:=h3;replace rr:=Rws.trans rr r3));generalize hvv:(loadS (dO c E.t.aj) E).1=v at HQ hv ⊢;have k2:w3.cell? (s,2)=I 32:=hh.cell 2;have f2:=hh.frz 2;have k18:w3.cell? (s,18)=J E.t.N:=hh.cell 18;have f18:=hh.frz 18
 cases q<;>by_cases h2:a<0;all_goals go_wp2_with (first|(go_at_call 299;refine Xr (wK _ _ _ _ qd qv HQ.out _) ?_)|(go_at_call 292;(refine(flMustS _ _ hh).mono ?_);rintro e w4 ⟨rfl,h4,r4⟩;replace hh:=h4;replace rr:=Rws.trans rr r4;have k18:w4.cell? (s,18)=J E.t.N:=hh.cell 18;have f18:=hh.frz 18;have k12:w4.cell? (s,12)=I E.t.ai:=hh.cell 12;have f12:=hh.frz 12)|(go_at_call 296;(with_reducible refine(flTo _ (_) (hh.pN hv)).mono ?_);rintro e w5 ⟨rfl,h5,r5⟩;replace hh:=h5;replace rr:=Rws.trans (Fr.set rr _ _) r5)|(go_at_call 296;(with_reducible refine(flTo _ (_) ((hh.pN hv).ss _)).mono ?_);rintro e w5 ⟨rfl,h5,r5⟩;replace hh:=h5;replace rr:=Rws.trans (Fr.set (Fr.set rr _ _) _ _) r5))
 all_goals refine Xe ?_
 all_goals
  have hq:=rn.out;subst hvv;exact⟨R,hh.eq (by simp only [oT,hq,XCt,Bool.false_and];((repeat' split)<;>(first|rfl|(exfalso;omega)|(exfalso;simp_all;done)|(exfalso;simp_all;omega)))),rr⟩
theorem TR(w:World)(h:FlW w s mb g c E)(hn:E.n<=1000000):Z 240 #[(s,0)] w λe w'=>
  e=.returned (.tuple #[])/\FlW w' s mb g c (oU c E)/\Fr s mb g w w':=by
 have hlt:=h.lt;have hh:=h;have rr:=Rws.refl [s,mb,g] w;obtain⟨a,b,q,hq⟩:∃a b q,fQ ((loadS (fz c E.t.ai) E).1:Int)=(a,b,q):=⟨_,_,_,R⟩;have HQ:=XAA hq;have rn:=XAA hq;clear hq;clear h;go_enter func240,ntmps240;go_wp2_with fail;replace hh:=hh.drew;replace rr:=Rws.drew rr;go_region_held3 (λw'=>bH w' s c (w'.cell? (s,12)=I E.t.ai)) (first|exact Xk) (first|(go_at_call 300;refine(nk hh.c E.t.ai _).mono ?_;rintro e w1 ⟨rfl,hb1⟩;replace hh:=hh.below hb1;replace rr:=Fr.below rr hb1)|(go_at_call 291;refine(flLoad _ hh hn (fz c E.t.ai)).mono ?_;rintro e w3 ⟨rfl,h3,r3⟩;have hv:=fP hh (fz c E.t.ai);replace hh:=h3;replace rr:=Rws.trans rr r3));generalize hvv:(loadS (fz c E.t.ai) E).1=v at HQ hv ⊢;have k2:w3.cell? (s,2)=I 32:=hh.cell 2;have f2:=hh.frz 2;have k16:w3.cell? (s,16)=J E.t.F:=hh.cell 16;have f16:=hh.frz 16
 cases q<;>by_cases h1:32<=a;all_goals go_wp2_with (first|(go_at_call 299;refine Xr (wK _ _ _ _ qd qv HQ.out _) ?_)|(go_at_call 296;(with_reducible refine(flTo _ (_) hh).mono ?_);rintro e w5 ⟨rfl,h5,r5⟩;replace hh:=h5;replace rr:=Rws.trans rr r5)|(go_at_call 296;(with_reducible refine(flTo _ (_) (hh.pF hv)).mono ?_);rintro e w5 ⟨rfl,h5,r5⟩;replace hh:=h5;replace rr:=Rws.trans (Fr.set rr _ _) r5))
 all_goals refine Xe ?_
 all_goals
  have hq:=rn.out;subst hvv;exact⟨R,hh.eq (by simp only [oU,hq];((repeat' split)<;>(first|rfl|(exfalso;omega)|(exfalso;simp_all;done)|(exfalso;simp_all;omega)))),rr⟩
theorem TZ(w:World)(h:FlW w s mb g c E)(hn:E.n<=1000000):Z 241 #[(s,0)] w λe w'=>
  e=.returned (.tuple #[])/\FlW w' s mb g c (tM c E)/\Fr s mb g w w':=by
 have hlt:=h.lt;have hh:=h;have rr:=Rws.refl [s,mb,g] w;have hw:IntKind.u64.wrap ((E.t.T:Int)+1)=((inc E.t.T:Nat):Int):=wrap_add E.t.T 1;have hi:inc E.t.T<U64:=XAj _ qf;have hF:=h.ok.F;have h0:(0:Nat)<U64:=qf
 clear h;go_enter func241,ntmps241;go_wp2_with fail;replace hh:=hh.drew;replace rr:=Rws.drew rr;go_region_held3 (λw'=>bH w' s c (w'.cell? (s,8)=I E.t.aj/\w'.cell? (s,18)=J E.t.N/\w'.cell? (s,15)=J E.t.T/\w'.cell? (s,16)=J E.t.F)) (first|exact Xk) (first|(go_at_call 298;refine(mx hh.c E.t.aj _).mono ?_;rintro e w1 ⟨rfl,hb1⟩;replace hh:=hh.below hb1;replace rr:=Fr.below rr hb1)|(go_at_call 290;(refine(flCas2 _ hh hn (dO c E.t.aj) E.t.N E.t.T E.t.F (inc E.t.T) hF hi).mono ?_);rintro e w6 ⟨rfl,h6,r6⟩;replace hh:=h6;replace rr:=Rws.trans rr r6)|(go_at_call 289;(refine(mE _ _ _ _ hh).mono ?_);rintro e w9 ⟨rfl,h9,r9⟩;replace hh:=h9;replace rr:=Rws.trans rr r9));refine Xe ?_;exact⟨R,hh.eq (vq _ _ _ _),rr⟩
theorem TI(w:World)(h:FlW w s mb g c E)(hn:E.n<=1000000):Z 234 #[(s,0)] w λe w'=>
  e=.returned (.tuple #[])/\FlW w' s mb g c (tG c E)/\Fr s mb g w w':=by
 have hlt:=h.lt;have hh:=h;have rr:=Rws.refl [s,mb,g] w;have hw:IntKind.u64.wrap ((E.t.T:Int)+1)=((inc E.t.T:Nat):Int):=wrap_add E.t.T 1;have hi:inc E.t.T<U64:=XAj _ qf;have hF:=h.ok.F;have h0:(0:Nat)<U64:=qf
 clear h;go_enter func234,ntmps234;go_wp2_with fail;replace hh:=hh.drew;replace rr:=Rws.drew rr;go_region_held3 (λw'=>bH w' s c (w'.cell? (s,8)=I E.t.aj/\w'.cell? (s,14)=J E.t.H/\w'.cell? (s,15)=J E.t.T)) (first|exact Xk) (first|(go_at_call 280;refine(nj hh.c E.t.aj _).mono ?_;rintro e w1 ⟨rfl,hb1⟩;replace hh:=hh.below hb1;replace rr:=Fr.below rr hb1)|(go_at_call 290;(refine(flCas2 _ hh hn (dm c E.t.aj) E.t.H E.t.T 0 (inc E.t.T) h0 hi).mono ?_);rintro e w6 ⟨rfl,h6,r6⟩;replace hh:=h6;replace rr:=Rws.trans rr r6)|(go_at_call 289;(refine(mE _ _ _ _ hh).mono ?_);rintro e w9 ⟨rfl,h9,r9⟩;replace hh:=h9;replace rr:=Rws.trans rr r9));refine Xe ?_;exact⟨R,hh.eq (vq _ _ _ _),rr⟩
end
section
variable{w w':World}{s mb g:Nat}{c:Ch}{E:St}
theorem TP(w:World)(h:FlW w s mb g c E)(hn:E.n<=1000000):Z 242 #[(s,0)] w λe w'=>
  e=.returned (.tuple #[])/\FlW w' s mb g c (tJ c E)/\Fr s mb g w w':=by
 have hlt:=h.lt;have hh:=h;have rr:=Rws.refl [s,mb,g] w;have h1:(1:Nat)<U64:=qf
 clear h;go_enter func242,ntmps242;go_wp2_with fail;replace hh:=hh.drew;replace rr:=Rws.drew rr;go_region_held3 (λw'=>bH w' s c (w'.cell? (s,0)=some (.pointer (mb,0)))) (first|exact Xk) (first|(go_at_call 302;refine(mr hh.c _).mono ?_;rintro e w1 ⟨rfl,hb1⟩;replace hh:=hh.below hb1;replace rr:=Fr.below rr hb1)|(go_at_call 301;(refine(DB _ hh hn (iu c) 0 1 h1 (Dz hh)).mono ?_);rintro e w6 ⟨rfl,h6,r6⟩;replace hh:=h6;replace rr:=Rws.trans rr r6));go_wp2_with (first|(go_at_call 292;(refine(flMustS _ _ hh).mono ?_);rintro e w4 ⟨rfl,h4,r4⟩;replace hh:=h4;replace rr:=Rws.trans rr r4)|(go_at_call 289;(refine(mE _ _ _ _ hh).mono ?_);rintro e w9 ⟨rfl,h9,r9⟩;replace hh:=h9;replace rr:=Rws.trans rr r9));refine Xe ?_;exact⟨R,hh.eq ((XAK (St.sPc · _) (Kn _)).trans (vq _ _ _ _)),rr⟩
theorem TN(w:World)(h:FlW w s mb g c E)(hn:E.n<=1000000)(hg:fD w s mb g)(hp:E.t.pc=48):Z 252 #[(s,0)] w λe w'=>
  e=.returned (.tuple #[])/\FlW w' s mb g c (tI c E)/\Fr s mb g w w':=by
 have hlt:=h.lt;have hh:=h;have rr:=Rws.refl [s,mb,g] w;clear h;go_enter func252,ntmps252;go_wp2_with fail;replace hh:=hh.drew;replace rr:=Rws.drew rr;go_region_held3 (λw'=>bH w' s c (w'.cell? (s,0)=some (.pointer (mb,0)))) (first|exact Xk) (first|(go_at_call 307;refine(rJ hh.c _).mono ?_;rintro e w1 ⟨rfl,hb1⟩;replace hh:=hh.below hb1;replace rr:=Fr.below rr hb1)|(go_at_call 306;(refine(DA _ hh hn (lI c) 18446744073709551615 (CR hh)).mono ?_);rintro e w6 ⟨rfl,h6,r6⟩;replace hh:=h6;replace rr:=Rws.trans rr r6));go_wp2_with (first|(go_at_call 292;(refine(flMustS _ _ hh).mono ?_);rintro e w4 ⟨rfl,h4,r4⟩;replace hh:=h4;replace rr:=Rws.trans rr r4)|(go_at_call 293;(refine(mF _ 48 hh (hg.fr rr) hp qd).mono ?_);rintro e w8 ⟨rfl,h8,r8⟩;replace hh:=h8;replace rr:=Rws.trans rr r8));refine Xe ?_;exact⟨R,hh.eq ((XAK (St.sPc · _) (Kn _)).trans (XAK (St.sPc _) (XAK eL hp).symm)),rr⟩
theorem Ht(w:World)(h:FlW w s mb g c E)(hn:E.n<=1000000)(hg:fD w s mb g)(p:Int)(hp:E.t.pc=p)(hl:p=36\/p=49):Z 244 #[(s,0)] w λe w'=>
  e=.returned (.tuple #[])/\FlW w' s mb g c (lE c E)/\Fr s mb g w w':=by
 have hlt:=h.lt;have hh:=h;have rr:=Rws.refl [s,mb,g] w;have h0:(0:Nat)<U64:=qf
 clear h;have k1:w.cell? (s,1)=I c.C:=hh.cell 1;have f1:=hh.frz 1;have k2:w.cell? (s,2)=I 32:=hh.cell 2;have f2:=hh.frz 2;have k3:w.cell? (s,3)=I c.O:=hh.cell 3;have f3:=hh.frz 3;have k4:w.cell? (s,4)=I 1:=hh.cell 4;have f4:=hh.frz 4;have k5:w.cell? (s,5)=I 2:=hh.cell 5;have f5:=hh.frz 5;have k6:w.cell? (s,6)=J c.key:=hh.cell 6;have f6:=hh.frz 6
 have HH:=XAA hh;have RR:=XAA rr;clear hh rr;rcases hl with rfl|rfl
 .have hh:=HH.out;have rr:=RR.out;go_enter func244,ntmps244;go_wp2_with (first|(go_at_call 302;refine(mr hh.c _).mono ?_;rintro e w1 ⟨rfl,hb1⟩;replace hh:=hh.below hb1;replace rr:=Fr.below rr hb1)|(go_at_call 304;(refine(flStore _ hh hn (iu c) 0 h0).mono ?_);rintro e w7 ⟨rfl,h7,r7⟩;replace hh:=h7;replace rr:=Rws.trans rr r7;have k9:w7.cell? (s,9)=I 36:=hp ▸ hh.cell 9;have k11:w7.cell? (s,11)=I E.t.aB:=hh.cell 11;have f11:=hh.frz 11)|(go_at_call 293;(refine(mF _ 36 (hh.zm 1) (hg.fr (Fr.set rr 11 (I 1))) hp qd).mono ?_);rintro e w8 ⟨rfl,h8,r8⟩;replace hh:=h8;replace rr:=Rws.trans (Fr.set rr 11 (I 1)) r8));refine Xe ?_;exact⟨R,hh.eq (by rw [show lE c E=((storeS (iu c) 0 E).DY 1).on from XAE hp];exact XAK (St.sPc _) (XAK eL hp).symm),rr⟩
 .have hh:=HH.out;have rr:=RR.out;go_enter func244,ntmps244;go_wp2_with (first|(go_at_call 302;refine(mr hh.c _).mono ?_;rintro e w1 ⟨rfl,hb1⟩;replace hh:=hh.below hb1;replace rr:=Fr.below rr hb1)|(go_at_call 304;(refine(flStore _ hh hn (iu c) 0 h0).mono ?_);rintro e w7 ⟨rfl,h7,r7⟩;replace hh:=h7;replace rr:=Rws.trans rr r7;have k9:w7.cell? (s,9)=I 49:=hp ▸ hh.cell 9)|(go_at_call 293;(refine(mF _ 49 hh (hg.fr rr) hp qd).mono ?_);rintro e w8 ⟨rfl,h8,r8⟩;replace hh:=h8;replace rr:=Rws.trans rr r8));refine Xe ?_;exact⟨R,hh.eq (by rw [show lE c E=(storeS (iu c) 0 E).on from XAD qd];exact XAK (St.sPc _) (XAK eL hp).symm),rr⟩
theorem TQ(w:World)(h:FlW w s mb g c E)(hn:E.n<=1000000)(hg:fD w s mb g)(hp:E.t.pc=46):Z 250 #[(s,0)] w λe w'=>
  e=.returned (.tuple #[])/\FlW w' s mb g c (tK c E)/\Fr s mb g w w':=by
 have hlt:=h.lt;have hh:=h;have rr:=Rws.refl [s,mb,g] w;clear h;go_enter func250,ntmps250;go_wp2_with fail;replace hh:=hh.drew;replace rr:=Rws.drew rr;go_region_held3 (λw'=>bH w' s c (w'.cell? (s,12)=I E.t.ai)) (first|exact⟨hh.cell 1,hh.cell 2,hh.cell 3,hh.cell 4,hh.cell 5,hh.cell 6,hh.cell 12⟩|(have hq:=hh.pN hv;exact Xl)) (first|(go_at_call 300;refine(nk hh.c E.t.ai _).mono ?_;rintro e w1 ⟨rfl,hb1⟩;replace hh:=hh.below hb1;replace rr:=Fr.below rr hb1)|(go_at_call 291;refine(flLoad _ hh hn (fz c E.t.ai)).mono ?_;rintro e w3 ⟨rfl,h3,r3⟩;have hv:=fP hh (fz c E.t.ai);replace hh:=h3;replace rr:=Rws.trans rr r3;have f3:=hh.frz 18;have g3:w3.cell? (s,18)=J E.t.N:=hh.cell 18));replace hh:=hh.pN hv;replace rr:=Fr.set rr 18 (J ((loadS (fz c E.t.ai) E).1:Int));generalize w3.setCell (s,18) (J ((loadS (fz c E.t.ai) E).1:Int))=W at hh rr ⊢;have k2:W.cell? (s,2)=I 32:=hh.cell 2;have f2:=hh.frz 2;have k18:W.cell? (s,18)=J ((loadS (fz c E.t.ai) E).1:Int):=hh.cell 18;have f18:=hh.frz 18
 go_wp2_with fail;replace hh:=hh.drew;replace rr:=Rws.drew rr;have hw32:IntKind.u64.wrap 32=32:=rfl;go_region_held3 (λw'=>w'.cell? (s,2)=I 32/\w'.cell? (s,18)=J ((loadS (fz c E.t.ai) E).1:Int)) (exact Xk) (first|(go_at_call 292;(refine(flMustS _ _ hh).mono ?_);rintro e w4 ⟨rfl,h4,r4⟩;replace hh:=h4;replace rr:=Rws.trans rr r4));go_wp2_with (first|(go_at_call 293;(refine(mF _ 46 hh (hg.fr rr) hp qd).mono ?_);rintro e w8 ⟨rfl,h8,r8⟩;replace hh:=h8;replace rr:=Rws.trans rr r8));refine Xe ?_;exact⟨rfl,hh.eq ((XAK (λb=>(must b _).sPc (eL 46)) (XEc.2 qd)).trans (XAK (St.sPc _) (XAK eL hp).symm)),rr⟩
theorem TF(w:World)(h:FlW w s mb g c E)(hn:E.n<=1000000)(hg:fD w s mb g)(hp:E.t.pc=47):Z 251 #[(s,0)] w λe w'=>
  e=.returned (.tuple #[])/\FlW w' s mb g c (tF c E)/\Fr s mb g w w':=by
 have hlt:=h.lt;have hh:=h;have rr:=Rws.refl [s,mb,g] w;have hN:=h.ok.N;clear h;go_enter func251,ntmps251;go_wp2_with fail;replace hh:=hh.drew;replace rr:=Rws.drew rr;go_region_held3 (λw'=>bH w' s c (w'.cell? (s,18)=J E.t.N)) (first|exact Xk) (first|(go_at_call 303;refine(nm hh.c _).mono ?_;rintro e w1 ⟨rfl,hb1⟩;replace hh:=hh.below hb1;replace rr:=Fr.below rr hb1)|(go_at_call 304;(refine(flStore _ hh hn (oc c) E.t.N hN).mono ?_);rintro e w7 ⟨rfl,h7,r7⟩;replace hh:=h7;replace rr:=Rws.trans rr r7));go_wp2_with (first|(go_at_call 293;(refine(mF _ 47 hh (hg.fr rr) hp qd).mono ?_);rintro e w8 ⟨rfl,h8,r8⟩;replace hh:=h8;replace rr:=Rws.trans rr r8));refine Xe ?_;exact⟨R,hh.eq (XAK (St.sPc _) (XAK eL hp).symm),rr⟩
theorem TU(w:World)(h:FlW w s mb g c E)(hn:E.n<=1000000):Z 243 #[(s,0)] w λe w'=>
  e=.returned (.tuple #[])/\FlW w' s mb g c (mD c E)/\Fr s mb g w w':=by
 have hlt:=h.lt;have hh:=h;have rr:=Rws.refl [s,mb,g] w;clear h;have K0:=hh.cell;have k1:w.cell? (s,1)=I c.C:=hh.cell 1;have f1:=hh.frz 1;have k2:w.cell? (s,2)=I 32:=hh.cell 2;have f2:=hh.frz 2;have k3:w.cell? (s,3)=I c.O:=hh.cell 3;have f3:=hh.frz 3;have k4:w.cell? (s,4)=I 1:=hh.cell 4;have f4:=hh.frz 4;have k5:w.cell? (s,5)=I 2:=hh.cell 5;have f5:=hh.frz 5;have k6:w.cell? (s,6)=J c.key:=hh.cell 6;have f6:=hh.frz 6
 have hu:U64=18446744073709551616:=rfl;have hw32:IntKind.u64.wrap 32=32:=rfl;clear K0;have k18:w.cell? (s,18)=J E.t.N:=hh.cell 18;obtain⟨v,hvv⟩:=Xq ((loadS (oc c) E).1);go_enter func243,ntmps243;go_wp2_with (first|(go_at_call 303;refine(nm hh.c _).mono ?_;rintro e w1 ⟨rfl,hb1⟩;replace hh:=hh.below hb1;replace rr:=Fr.below rr hb1)|(go_at_call 291;(refine(flLoad _ hh hn (oc c)).mono ?_);rintro e w3 ⟨rfl,h3,r3⟩;have hv:=fP hh (oc c);replace hh:=h3;replace rr:=Rws.trans rr r3;rw [hvv] at hv ⊢;have g18:w3.cell? (s,18)=J E.t.N:=hh.cell 18;have f18:=hh.frz 18));replace hh:=hh.pN hv;replace rr:=Fr.set rr 18 (J v);generalize w3.setCell (s,18) (J v)=W at hh rr ⊢;replace hh:=hh.drew;replace rr:=Rws.drew rr;go_region_held3 (λw'=>w'.cell? (s,2)=I 32/\w'.cell? (s,18)=J v) (exact Xk) (first|(go_at_call 292;(refine(flMustS _ _ hh).mono ?_);rintro e w4 ⟨rfl,h4,r4⟩;replace hh:=h4;replace rr:=Rws.trans rr r4));obtain⟨bd,hbd⟩:=Xq ((must (decide ((v:Int)<=32)) ((loadS (oc c) E).2.sN v)).bad);have k24:w4.cell? (s,24)=some (.bool bd):=hbd ▸ hh.cell 24;have k18:w4.cell? (s,18)=J v:=hh.cell 18;have f18:=hh.frz 18;have k12:w4.cell? (s,12)=I E.t.ai:=hh.cell 12;have f12:=hh.frz 12
 have HB:=XAA hbd;have HV:=XAA hvv;clear hbd hvv;have hd:decide (v<=32)=decide ((v:Int)<=32):=XEc.2 qd;have HD:=XAA hd;clear hd;by_cases hv0:v=0
 .subst hv0;go_wp2_with (first|(go_at_call 296;refine(flTo _ (36) hh).mono ?_;rintro e w5 ⟨rfl,h5,r5⟩;replace hh:=h5;replace rr:=Rws.trans rr r5));refine Xe ?_;exact⟨R,hh.eq (by simp only [mD,HV.out];rw [XAE ql];rfl),rr⟩
 .have hz:((v:Int)==0)=false:=by rw [XAf];omega
  cases bd
  .have hw:IntKind.i64.wrap (v:Int)=v:=by
    have hb:=HB.out;have:(v:Int)<=32:=XEd λhn=>qhl
    exact XAM _ qd
   have hw2:IntKind.i64.wrap ((v:Int)-1)=v-1:=by
    have hb:=HB.out;have:(v:Int)<=32:=XEd λhn=>qhl
    exact XAM _ qd
   go_wp2_with (first|(go_at_call 296;refine(flTo _ (37) (hh.ss ((v:Int)-1))).mono ?_;rintro e w5 ⟨rfl,h5,r5⟩;replace hh:=h5;replace rr:=Rws.trans (Fr.set rr _ _) r5));refine Xe ?_;exact⟨R,hh.eq (by simp only [mD,HV.out,HD.out,HB.out];rw [XAD (by simp [hv0])]),rr⟩
  .go_wp2_with (first|(go_at_call 296;refine(flTo _ (36) hh).mono ?_;rintro e w5 ⟨rfl,h5,r5⟩;replace hh:=h5;replace rr:=Rws.trans rr r5));refine Xe ?_;exact⟨R,hh.eq (by simp only [mD,HV.out,HD.out,HB.out];rw [XAE ql]),rr⟩
end
section
variable{w w':World}{s mb g:Nat}{c:Ch}{E:St}
theorem TT(w:World)(h:FlW w s mb g c E)(hn:E.n<=1000000)(hg:fD w s mb g)(hp:E.t.pc=40):Z 245 #[(s,0)] w λe w'=>
  e=.returned (.tuple #[])/\FlW w' s mb g c (rR c E)/\Fr s mb g w w':=by
 have hlt:=h.lt;have hh:=h;have rr:=Rws.refl [s,mb,g] w;obtain⟨a,b,hq⟩:∃a b,jq (loadS (eK c E.t.ai E.t.aq) E).1 (gC c E.t.ai) E.t.aq=(a,b):=⟨_,_,R⟩;have HQ:=XAA hq;have rn:=HQ;clear hq;clear h;go_enter func245,ntmps245;go_wp2_with fail;replace hh:=hh.drew;replace rr:=Rws.drew rr;go_region_held3 (λw'=>bH w' s c (w'.cell? (s,12)=I E.t.ai/\w'.cell? (s,13)=I E.t.aq)) (first|exact Xk) (first|(go_at_call 147;refine(iM hh.c E.t.ai E.t.aq _).mono ?_;rintro e w1 ⟨rfl,hb1⟩;replace hh:=hh.below hb1;replace rr:=Fr.below rr hb1)|(go_at_call 291;refine(flLoad _ hh hn (eK c E.t.ai E.t.aq)).mono ?_;rintro e w3 ⟨rfl,h3,r3⟩;have hv:=fP hh (eK c E.t.ai E.t.aq);replace hh:=h3;replace rr:=Rws.trans rr r3));go_wp2_with fail;generalize hvv:(loadS (eK c E.t.ai E.t.aq) E).1=v at HQ hv ⊢;have k1:w3.cell? (s,1)=I c.C:=hh.cell 1;have f1:=hh.frz 1;have k2:w3.cell? (s,2)=I 32:=hh.cell 2;have f2:=hh.frz 2;have k3:w3.cell? (s,3)=I c.O:=hh.cell 3;have f3:=hh.frz 3;have k4:w3.cell? (s,4)=I 1:=hh.cell 4;have f4:=hh.frz 4;have k5:w3.cell? (s,5)=I 2:=hh.cell 5;have f5:=hh.frz 5;have k6:w3.cell? (s,6)=J c.key:=hh.cell 6;have f6:=hh.frz 6;have k12:w3.cell? (s,12)=I E.t.ai:=hh.cell 12;have f12:=hh.frz 12;have k13:w3.cell? (s,13)=I E.t.aq:=hh.cell 13;have f13:=hh.frz 13
 have hl3:=hh.lt;have HK:=wg c E.t.ai;(refine ba (w3.heap.size) (λhxc aA hxh hxn=>?_);(repeat (go_big_quiet_step (first|(go_at_call 284;exact dy (vk E.t.ai _))|(go_at_call 283;exact dy ((D2 v (gC c E.t.ai) hv HK E.t.aq a _ HQ.out _).mono λ_ _ ⟨e1,e2⟩=>⟨e1,e2 ▸ XAC _ _⟩)))));refine XAG ?_;clear hxc aA hxh hxn;intro w1 hb1 hz1 hc1 hf1);replace hh:=hh.below hb1;replace rr:=Fr.below rr hb1;clear hc1 hf1;have k3:w1.cell? (s,3)=I c.O:=hh.cell 3;have f3:=hh.frz 3
 cases b;all_goals go_wp2_with (first|(go_at_call 292;(refine(flMustS _ _ hh).mono ?_);rintro e w4 ⟨rfl,h4,r4⟩;replace hh:=h4;replace rr:=Rws.trans rr r4;have k19:w4.cell? (s,19)=I E.t.au:=hh.cell 19;have f19:=hh.frz 19)|(go_at_call 293;(refine(mF _ 40 (hh.ur a) (hg.fr (Fr.set rr 19 (I a))) hp qd).mono ?_);rintro e w8 ⟨rfl,h8,r8⟩;replace hh:=h8;replace rr:=Rws.trans (Fr.set rr 19 (I a)) r8))
 all_goals refine Xe ?_
 all_goals
  have hq:=rn.out;exact⟨R,hh.eq (by simp only [rR,hq,Bool.false_and,XCt];exact XAK (St.sPc _) (XAK eL hp).symm),rr⟩
theorem TL(w:World)(h:FlW w s mb g c E)(hn:E.n<=1000000):Z 247 #[(s,0)] w λe w'=>
  e=.returned (.tuple #[])/\FlW w' s mb g c (nG c E)/\Fr s mb g w w':=by
 have hlt:=h.lt;have hh:=h;have rr:=Rws.refl [s,mb,g] w;obtain⟨v,er,hq⟩:∃v er,gR E.t.ai E.t.au=(v,er):=⟨_,_,R⟩;have hv0:=IX E.t.ai E.t.au;rw [hq] at hv0;dsimp only at hv0;obtain⟨x,rfl⟩:=XAb hv0.1;have hx:x<U64:=qv
 have HQ:=XAA hq;obtain⟨bd,hbd⟩:=Xq ((E.bad|| !(er==0)));have hw:IntKind.u64.wrap ((E.t.T:Int)+1)=((inc E.t.T:Nat):Int):=wrap_add E.t.T 1;have hi:inc E.t.T<U64:=XAj _ qf;have HB:=XAA hbd;clear hbd h hq hv0;have k12:w.cell? (s,12)=I E.t.ai:=hh.cell 12;have f12:=hh.frz 12;have k19:w.cell? (s,19)=I E.t.au:=hh.cell 19;have f19:=hh.frz 19
 have hn1:(must (er==0) E).n<=1000000:=hn;go_enter func247,ntmps247;go_wp2_with fail;(refine ba (w.heap.size) (λhxc aA hxh hxn=>?_);(repeat (go_big_quiet_step ((go_at_call 305;exact dy ((vO E.t.ai E.t.au x er HQ.out _).mono λ_ _ ⟨e1,e2⟩=>⟨e1,e2 ▸ XAC _ _⟩)))));refine XAG ?_;clear hxc aA hxh hxn;intro w1 hb1 hz1 hc1 hf1);replace hh:=hh.below hb1;replace rr:=Fr.below rr hb1;clear hc1 hf1;cases bd
 .go_wp2_with (first|(go_at_call 292;(refine(flMustS _ _ hh).mono ?_);rintro e w4 ⟨rfl,h4,r4⟩;replace hh:=h4;replace rr:=Rws.trans rr r4;have k24:w4.cell? (s,24)=some (.bool false):=qcf));replace hh:=hh.drew;replace rr:=Rws.drew rr;go_region_held3 (λw'=>bH w' s c (w'.cell? (s,8)=I E.t.aj/\w'.cell? (s,15)=J E.t.T)) (first|exact Xk) (first|(go_at_call 280;refine(nj hh.c E.t.aj _).mono ?_;rintro e w1 ⟨rfl,hb1⟩;replace hh:=hh.below hb1;replace rr:=Fr.below rr hb1)|(go_at_call 290;(refine(flCas2 _ hh hn1 (dm c E.t.aj) 0 E.t.T x (inc E.t.T) hx hi).mono ?_);rintro e w6 ⟨rfl,h6,r6⟩;replace hh:=h6;replace rr:=Rws.trans rr r6));obtain⟨q,σ2,hc2⟩:∃q σ2,cas2S (dm c E.t.aj) 0 E.t.T x (inc E.t.T) (must (er==0) E)=(q,σ2):=⟨_,_,R⟩;have HC:=XAA hc2;rw [hc2] at hh ⊢;clear hc2;dsimp only at hh;have k10:w6.cell? (s,10)=I σ2.t.az:=hh.cell 10;have f10:=hh.frz 10
  cases q;all_goals go_wp2_with (first|(go_at_call 296;refine(flTo _ (41) hh).mono ?_;rintro e w5 ⟨rfl,h5,r5⟩;replace hh:=h5;replace rr:=Rws.trans rr r5))
  all_goals refine Xe ?_
  all_goals
   have hq:=HQ.out;have hb:(must (er==0) E).bad=false:=HB.out;have hc:=HC.out;first
   |exact⟨R,hh.eq qbx,rr⟩
   |exact⟨R,(hh.nX 1).eq qbx,Fr.set rr _ _⟩
 .go_wp2_with (first|(go_at_call 292;(refine(flMustS _ _ hh).mono ?_);rintro e w4 ⟨rfl,h4,r4⟩;replace hh:=h4;replace rr:=Rws.trans rr r4;have k24:w4.cell? (s,24)=some (.bool true):=qcf));refine Xe ?_;have hq:=HQ.out;have hb:(must (er==0) E).bad=true:=HB.out;exact⟨R,hh.eq (by simp only [nG,hq,hb];((repeat' split)<;>(first|rfl|(exfalso;omega)|(exfalso;simp_all;done)|(exfalso;simp_all;omega)))),rr⟩
theorem TJ(w:World)(h:FlW w s mb g c E)(hn:E.n<=1000000):Z 248 #[(s,0)] w λe w'=>
  e=.returned (.tuple #[])/\FlW w' s mb g c (nF c E)/\Fr s mb g w w':=by
 have hlt:=h.lt;have hh:=h;have rr:=Rws.refl [s,mb,g] w;obtain⟨m1,hm1⟩:=Xq (IntKind.i64.wrap (E.t.ay+1));obtain⟨nx,hnx⟩:=Xq ((if(c.O:Int)<=m1 then-1 else m1));have HK:=wg c E.t.ai;obtain⟨v,er,hq⟩:∃v er,gT nx (gC c E.t.ai) E.t.ay=(v,er):=⟨_,_,R⟩;have hv0:=CP nx (gC c E.t.ai) E.t.ay;rw [hq] at hv0;dsimp only at hv0;obtain⟨x,rfl⟩:=XAb hv0.1;have hx:x<U64:=qv
 have HQ:=XAA hq;obtain⟨bd,hbd⟩:=Xq ((E.bad|| !(er==0)));have HB:=XAA hbd;have HN:=XAA hnx;have HM:=XAA hm1;clear hbd h hq hv0 hnx;have hn1:(must (er==0) E).n<=1000000:=hn;have k1:w.cell? (s,1)=I c.C:=hh.cell 1;have f1:=hh.frz 1;have k2:w.cell? (s,2)=I 32:=hh.cell 2;have f2:=hh.frz 2;have k3:w.cell? (s,3)=I c.O:=hh.cell 3;have f3:=hh.frz 3;have k4:w.cell? (s,4)=I 1:=hh.cell 4;have f4:=hh.frz 4;have k5:w.cell? (s,5)=I 2:=hh.cell 5;have f5:=hh.frz 5;have k6:w.cell? (s,6)=J c.key:=hh.cell 6;have f6:=hh.frz 6;have k12:w.cell? (s,12)=I E.t.ai:=hh.cell 12;have f12:=hh.frz 12;have k20:w.cell? (s,20)=I E.t.ay:=hh.cell 20;have f20:=hh.frz 20
 have HH:=XAA hh;have RR:=XAA rr;clear hh rr;rcases (by omega:(c.O:Int)<=m1\/¬(c.O:Int)<=m1) with hc|hc
 all_goals
  obtain⟨y,hy⟩:=Xq nx;have hny:=HN.out;first|(rw [XAE hc] at hny)|(rw [XAD hc] at hny)
  have hh:=HH.out;have rr:=RR.out;go_enter func248,ntmps248;go_wp2_with fail;first|(rw [hny])|skip
  clear hny;subst hy;(refine ba (w.heap.size) (λhxc aA hxh hxn=>?_);(repeat (go_big_quiet_step (first|(go_at_call 284;exact dy (vk E.t.ai _))|(go_at_call 286;exact dy ((CQ nx (gC c E.t.ai) HK E.t.ay x er HQ.out _).mono λ_ _ ⟨e1,e2⟩=>⟨e1,e2 ▸ XAC _ _⟩)))));refine XAG ?_;clear hxc aA hxh hxn;intro w1 hb1 hz1 hc1 hf1);replace hh:=hh.below hb1;replace rr:=Fr.below rr hb1;clear hc1 hf1;cases bd
  .go_wp2_with (first|(go_at_call 292;(refine(flMustS _ _ hh).mono ?_);rintro e w4 ⟨rfl,h4,r4⟩;replace hh:=h4;replace rr:=Rws.trans rr r4;have k24:w4.cell? (s,24)=some (.bool false):=qcf));replace hh:=hh.drew;replace rr:=Rws.drew rr;go_region_held3 (λw'=>bH w' s c (w'.cell? (s,12)=I E.t.ai/\w'.cell? (s,20)=I E.t.ay)) (first|exact Xk) (first|(go_at_call 147;refine(iM hh.c E.t.ai E.t.ay _).mono ?_;rintro e w1 ⟨rfl,hb1⟩;replace hh:=hh.below hb1;replace rr:=Fr.below rr hb1)|(go_at_call 304;(refine(flStore _ hh hn1 (eK c E.t.ai E.t.ay) x hx).mono ?_);rintro e w7 ⟨rfl,h7,r7⟩;replace hh:=h7;replace rr:=Rws.trans rr r7));have k20:w7.cell? (s,20)=I E.t.ay:=hh.cell 20;have f20:=hh.frz 20
   have hm1:=HM.out;go_wp2_with (first|(go_at_call 289;(refine(mE _ _ _ _ (hh.wI m1)).mono ?_);rintro e w9 ⟨rfl,h9,r9⟩;replace hh:=h9;replace rr:=Rws.trans (Fr.set rr 20 (I m1)) r9));refine Xe ?_;have hq:=HQ.out;have hb:(must (er==0) E).bad=false:=HB.out;exact⟨R,hh.eq (by simp only [nF,HM.out,HN.out,hq,hb,XBQ,Bool.false_eq_true,if_false];exact vq _ _ _ _),rr⟩
  .go_wp2_with (first|(go_at_call 292;(refine(flMustS _ _ hh).mono ?_);rintro e w4 ⟨rfl,h4,r4⟩;replace hh:=h4;replace rr:=Rws.trans rr r4;have k24:w4.cell? (s,24)=some (.bool true):=qcf));refine Xe ?_;have hq:=HQ.out;have hb:(must (er==0) E).bad=true:=HB.out;exact⟨R,hh.eq (by simp only [nF,HM.out,HN.out,hq,hb,if_true]),rr⟩
theorem TO(w:World)(h:FlW w s mb g c E)(hn:E.n<=1000000):Z 249 #[(s,0)] w λe w'=>
  e=.returned (.tuple #[])/\FlW w' s mb g c (rQ c E)/\Fr s mb g w w':=by
 have hlt:=h.lt;have hh:=h;have rr:=Rws.refl [s,mb,g] w;have c1:=h.c.o1;have c2:=h.c.o16;obtain⟨v,er,hq⟩:∃v er,eM c.O c.O true true=(v,er):=⟨_,_,R⟩;have hv0:0<=v/\v<262144:=by have hm:iQ c.O c.O true true=true:=(Ki _ _ _ _).2 (.inl ⟨R,qd,qd,qd,qd⟩);have hb:=zo hm;have e:eM c.O c.O true true=(jQ c.O c.O true true,0):=XAE hm;rw [hq] at e;rw [show v=jQ c.O c.O true true from XAK Prod.fst e];exact hb
 obtain⟨x,rfl⟩:=XAb hv0.1;have hx:x<U64:=qv
 have HQ:=XAA hq;clear hq hv0 h;have hn1:(must (er==0) E).n<=1000000:=hn;have k3:w.cell? (s,3)=I c.O:=hh.cell 3;have f3:=hh.frz 3
 go_enter func249,ntmps249;go_wp2_with fail;(refine ba (w.heap.size) (λhxc aA hxh hxn=>?_);(repeat (go_big_quiet_step ((go_at_call 297;exact dy (wJ _ _ _ _ x er HQ.out _)))));refine XAG ?_;clear hxc aA hxh hxn;intro w1 hb1 hz1 hc1 hf1);replace hh:=hh.below hb1;replace rr:=Fr.below rr hb1;clear hc1 hf1;go_wp2_with (first|(go_at_call 292;(refine(flMustS _ _ hh).mono ?_);rintro e w4 ⟨rfl,h4,r4⟩;replace hh:=h4;replace rr:=Rws.trans rr r4));replace hh:=hh.drew;replace rr:=Rws.drew rr;go_region_held3 (λw'=>bH w' s c (w'.cell? (s,12)=I E.t.ai)) (first|exact Xk) (first|(go_at_call 198;refine(fX hh.c E.t.ai _).mono ?_;rintro e w1 ⟨rfl,hb1⟩;replace hh:=hh.below hb1;replace rr:=Fr.below rr hb1)|(go_at_call 294;refine Xr (flBehind _ (bE c E.t.ai) qbe) ?_)|(go_at_call 304;(refine(flStore _ hh hn1 (bh (bE c E.t.ai)) x hx).mono ?_);rintro e w7 ⟨rfl,h7,r7⟩;replace hh:=h7;replace rr:=Rws.trans rr r7));have k13:w7.cell? (s,13)=I E.t.aq:=hh.cell 13;have f13:=hh.frz 13
 go_wp2_with (first|(go_at_call 296;refine(flTo _ (40) (hh.mP 0)).mono ?_;rintro e w5 ⟨rfl,h5,r5⟩;replace hh:=h5;replace rr:=Rws.trans (Fr.set rr _ _) r5));refine Xe ?_;have hq:=HQ.out;exact⟨R,hh.eq (by simp only [rQ,hq,XBQ]),rr⟩
end
section
variable{w w':World}{s mb g:Nat}{c:Ch}{E:St}
theorem Hs(w:World)(h:FlW w s mb g c E)(hn:E.n<=1000000)(hg:fD w s mb g)(p:Int)(hp:E.t.pc=p)(hl:p=21\/p=37):Z 235 #[(s,0)] w λe w'=>
  e=.returned (.tuple #[])/\FlW w' s mb g c (nE c E)/\Fr s mb g w w':=by
 have hlt:=h.lt;have hh:=h.drew;have rr:=Rws.drew (Rws.refl [s,mb,g] w);have c2:=h.c.o16;have yR:IntKind.u64.wrap (c.O:Int)=c.O:=qcj
 clear h;go_enter func235,ntmps235;go_wp2_with fail;go_region_held3 (λw'=>bH w' s c (w'.cell? (s,12)=I E.t.ai)) (first|exact⟨hh.cell 1,hh.cell 2,hh.cell 3,hh.cell 4,hh.cell 5,hh.cell 6,hh.cell 12⟩|(have hq:=hh.pF hv;exact Xl)) (first|(go_at_call 198;refine(fX hh.c E.t.ai _).mono ?_;rintro e w1 ⟨rfl,hb1⟩;replace hh:=hh.below hb1;replace rr:=Fr.below rr hb1)|(go_at_call 291;refine(flLoad _ hh hn (bE c E.t.ai)).mono ?_;rintro e w3 ⟨rfl,h3,r3⟩;have hv:=fP hh (bE c E.t.ai);replace hh:=h3;replace rr:=Rws.trans rr r3;have f3:=hh.frz 16;have g3:w3.cell? (s,16)=J E.t.F:=hh.cell 16));obtain⟨v,hvv⟩:=Xq ((loadS (bE c E.t.ai) E).1);rw [hvv] at hv;replace hh:=hh.pF hv;replace rr:=Fr.set rr 16 (J v);rw [hvv];generalize w3.setCell (s,16) (J v)=W at hh rr ⊢;go_wp2_with fail;have HV:=XAA hvv;clear hvv;have lW:=hh.lt;obtain⟨V,hV⟩:=Xq ((v:Int));rw [hV];have k3:W.cell? (s,3)=I c.O:=hh.cell 3;have k16:W.cell? (s,16)=J V:=hV ▸ hh.cell 16;have HI:=XAA hV;clear hV;rcases hl with rfl|rfl
 .have k9:W.cell? (s,9)=I 21:=hp ▸ hh.cell 9;by_cases h1:V<=c.O<;>by_cases h2:0<V;all_goals
   (refine bN 29 (W.heap.size) ?_;intro hxc aA hxh hxn;simp only [List.take,List.drop];(repeat (first|go_big_quiet_step (fail)|quiet_step (fail)));refine XAG ?_;clear hxc aA hxh hxn;intro w1 hb1 hz1 hc1 hf1)
   replace hh:=hh.below hb1;replace rr:=Fr.below rr hb1;go_wp2_with (first|(go_at_call 292;(refine(flMustS _ _ hh).mono ?_);rintro e w4 ⟨rfl,h4,r4⟩;replace hh:=h4;replace rr:=Rws.trans rr r4)|(go_at_call 293;(refine(mF _ 21 hh (hg.fr rr) hp qd).mono ?_);rintro e w8 ⟨rfl,h8,r8⟩;replace hh:=h8;replace rr:=Rws.trans rr r8));refine Xe ?_;have hi:=HI.out;exact⟨R,hh.eq ((XAK (St.sPc · (eL 21)) (DE (b:=decide ((v:Int)<=c.O) && (decide (0<v)||decide (E.t.pc=21))) (by rw [hp];simp<;>omega))).trans ((XAK (St.sPc _) (XAK eL hp).symm).trans (by rw [<-HV.out];rfl))),rr⟩
 .have k9:W.cell? (s,9)=I 37:=hp ▸ hh.cell 9;by_cases h1:V<=c.O<;>by_cases h2:0<V;all_goals
   (refine bN 29 (W.heap.size) ?_;intro hxc aA hxh hxn;simp only [List.take,List.drop];(repeat (first|go_big_quiet_step (fail)|quiet_step (fail)));refine XAG ?_;clear hxc aA hxh hxn;intro w1 hb1 hz1 hc1 hf1)
   replace hh:=hh.below hb1;replace rr:=Fr.below rr hb1;go_wp2_with (first|(go_at_call 292;(refine(flMustS _ _ hh).mono ?_);rintro e w4 ⟨rfl,h4,r4⟩;replace hh:=h4;replace rr:=Rws.trans rr r4)|(go_at_call 293;(refine(mF _ 37 hh (hg.fr rr) hp qd).mono ?_);rintro e w8 ⟨rfl,h8,r8⟩;replace hh:=h8;replace rr:=Rws.trans rr r8));refine Xe ?_;have hi:=HI.out;exact⟨R,hh.eq ((XAK (St.sPc · (eL 37)) (DE (b:=decide ((v:Int)<=c.O) && (decide (0<v)||decide (E.t.pc=21))) (by rw [hp];simp<;>omega))).trans ((XAK (St.sPc _) (XAK eL hp).symm).trans (by rw [<-HV.out];rfl))),rr⟩
end
section
variable{w w':World}{s mb g:Nat}{c:Ch}{E:St}
theorem Fr.over{w1 w2:World}{o:Obj}(h:Fr s mb g w w1)(hr:Rws [w1.heap.size] (w1.alloc o) w2)(hs:w.heap.size<=w1.heap.size):Fr s mb g w w2:=by
 have h1:=Fr.alloc h o;refine⟨hr.os.trans h1.os,hr.tape.trans h1.tape,hr.output.trans h1.output,XAL h1.size hr.size,λk hk h2=>?_⟩;exact(hr.block k (XAH hk h1.size) qj).trans (h1.block k hk h2)
def aef(p:Int):Prop:=∀(w:World){s mb g:Nat}{c:Ch}{E:St},FlW w s mb g c E->E.n<=1000000->E.t.pc=p->Z 237 #[(s,0)] w λe w'=>
  e=.returned (.tuple #[])/\FlW w' s mb g c (eu c E)/\Fr s mb g w w'
theorem aee{p:Prop}(x:p:=by
 intro w s mb g c E h hn hp;have c2:=h.c.o16;have yR:IntKind.u64.wrap (c.O:Int)=c.O:=by simp [IntKind.wrap,IntKind.bits,IntKind.signed];omega
 obtain⟨i,o,f,l,σ1,hq⟩:∃i o f l σ1,cY E=(⟨i,o,f,l⟩,σ1):=by rcases cY E with⟨⟨i,o,f,l⟩,σ1⟩;exact⟨i,o,f,l,σ1,R⟩
 have ht1:σ1.t=E.t:=by rw [show σ1=(cY E).2 from qkr];exact(zW E).1
 have hn1:σ1.n<=1000000:=by rw [show σ1.n=E.n from qdm];exact hn
 have HS:=vu w h;rw [hq] at HS;dsimp only at HS;have HC:=XAA HS;have HQ:=XAA hq;have hpk:∃(x:Nat)(er:Int),eM o o true l=((x:Int),er)/\x<U64:=by
  obtain⟨v,er,hv⟩:∃v er,eM o o true l=(v,er):=⟨_,_,R⟩;have hb:0<=v/\v<262144:=by
   unfold eM at hv;split at hv
   .rename_i hm;have:=zo hm;cases hv;exact this
   .cases hv;exact⟨qf,qf⟩
  obtain⟨x,rfl⟩:=XAb hb.1;exact⟨x,er,hv,qv⟩
 obtain⟨x,er,hpk,hx⟩:=hpk;have HP:=XAA hpk;have k9:w.cell? (s,9)=I E.t.pc:=h.cell 9;rw [hp] at k9;have hlt:=h.lt;have h00:(0:Nat)<U64:=by decide
 clear h hq HS hpk;go_enter func237,ntmps237;go_wp2_with fail;refine(HC.out).mono ?_;rintro e w2 ⟨rfl,hh,rr⟩;have hl:=hh.bj;have Bn:=ak.new w2 364 #[I 0,I 0,.bool false,.bool false];clear HC;go_wp2_with (first|(refine aU R 364 _ _ R _ R R Bn R qh qk ?_;intro w8 aC kb8;have kc8:=kb8.cell;have kf8:=kb8.frozen;clear kb8)|(go_at_call 297;(refine(wJ _ _ _ _ (x:Int) er HP.out _).mono ?_);rintro e wp ⟨rfl,hb1⟩;replace hh:=((hh.alloc (.cells #[I 0,I 0,.bool false,.bool false] 364)).rws ((aC.rws.set (g:=w2.heap.size) ql 2 (.bool true)).set (g:=w2.heap.size) ql 0 (I o)) qj qj qj).below hb1;replace rr:=Fr.below (Fr.over rr ((aC.rws.set (g:=w2.heap.size) ql 2 (.bool true)).set (g:=w2.heap.size) ql 0 (I o)) rr.size) hb1;clear kc8 kf8 aC hb1));clear hl Bn k9;obtain⟨V,hV⟩:=Xq ((E.t.F:Int));have hV0:(V==0)=decide (E.t.F=0):=by rw [<-hV,XBM];simp
 have o6:decide (V<=c.O)=decide ((E.t.F:Int)<=c.O):=by rw [hV]
 have k9:wp.cell? (s,9)=I σ1.t.pc:=hh.cell 9;rw [ht1,hp] at k9;have k16:wp.cell? (s,16)=J V:=by rw [<-hV,<-ht1];exact hh.cell 16
 have k3:wp.cell? (s,3)=I c.O:=hh.cell 3;have lW:=hh.lt;have IH:0<=V:=by omega
 have HV:=XAA hV;have mf:=XAA hV0;have mZ:=XAA o6;clear hV hV0 o6;have HT1:=XAA ht1;clear ht1;have HH:=XAA hh;have RR:=XAA rr;clear hh rr;have leaf:∀b:Bool,((er==0) && ((decide (E.t.F=0)==false) && decide ((E.t.F:Int)<=c.O)))=b->σ1.bad=true\/b=false->eu c E=must b σ1:=by
  intro b hb hd;have e1:decide (E.t.pc=24)=false:=by rw [hp];rfl
  have hq:=HQ.out;have hpk:=HP.out;simp only [eu,e1,hq,XC4,Bool.not_false,hpk,hb];rw [XAE];rcases hd with hd|hd<;>simp [must,hd]
 by_cases he:er=0
 .subst he;by_cases hv:V=0
  .have hvb:(V==0)=true:=by simp [hv]
   have jh:decide (V<=(c.O:Int))=true:=XAR qd;have hh:=HH.out;have rr:=RR.out;(refine bN 27 (wp.heap.size) ?_;intro hxc aA hxh hxn;simp only [List.take,List.drop];(repeat (go_big_quiet_step (fail)));refine XAG ?_;clear hxc aA hxh hxn;intro w1 hb1 hz1 hc1 hf1);replace hh:=hh.below hb1;replace rr:=Fr.below rr hb1;go_wp2_with (first|(go_at_call 292;(refine(flMustS _ false hh).mono ?_);rintro e w4 ⟨rfl,h4,r4⟩;replace hh:=h4;replace rr:=Rws.trans rr r4;have k24:w4.cell? (s,24)=some (.bool true):=qn));refine Xe ?_;exact⟨R,hh.eq (leaf false qjv (.inr R)).symm,rr⟩
  .have hvb:(V==0)=false:=by simp [hv]
   by_cases ho:V<=(c.O:Int)
   .have jh:decide (V<=(c.O:Int))=true:=XAR ho;have lf:=leaf true qde;obtain⟨bd,hbd⟩:=Xq σ1.bad;have HB:=XAA hbd;have LF:=XAA lf;have Lf:=XAA leaf;clear hbd lf leaf;have hh:=HH.out;have rr:=RR.out;(refine bN 27 (wp.heap.size) ?_;intro hxc aA hxh hxn;simp only [List.take,List.drop];(repeat (go_big_quiet_step (fail)));refine XAG ?_;clear hxc aA hxh hxn;intro w1 hb1 hz1 hc1 hf1);replace hh:=hh.below hb1;replace rr:=Fr.below rr hb1;clear k9 k16 k3 hc1 hf1;cases bd
    .go_wp2_with (first|(go_at_call 292;(refine(flMustS _ true hh).mono ?_);rintro e w4 ⟨rfl,h4,r4⟩;replace hh:=h4;replace rr:=Rws.trans rr r4;have k24:w4.cell? (s,24)=some (.bool false):=qp));replace hh:=hh.drew;replace rr:=Rws.drew rr;have hn2:(must true σ1).n<=1000000:=hn1;go_region_held3 (λw'=>bH w' s c (w'.cell? (s,12)=I σ1.t.ai/\w'.cell? (s,16)=J σ1.t.F/\w'.cell? (s,17)=J σ1.t.K)) (first|exact Xk) (first|(go_at_call 198;refine(fX hh.c σ1.t.ai _).mono ?_;rintro e w1 ⟨rfl,hb1⟩;replace hh:=hh.below hb1;replace rr:=Fr.below rr hb1)|(go_at_call 290;(refine(flCas2 _ hh hn2 (bE c σ1.t.ai) σ1.t.F σ1.t.K 0 x h00 hx).mono ?_);rintro e w6 ⟨rfl,h6,r6⟩;replace hh:=h6;replace rr:=Rws.trans rr r6));obtain⟨q,σ2,hc2⟩:∃q σ2,cas2S (bE c σ1.t.ai) σ1.t.F σ1.t.K 0 x (must true σ1)=(q,σ2):=⟨_,_,R⟩;have ht2:σ2.t=E.t:=by rw [show σ2=(cas2S (bE c σ1.t.ai) σ1.t.F σ1.t.K 0 x (must true σ1)).2 by rw [hc2]];exact HT1.out
     have hc3:cas2S (bE c E.t.ai) E.t.F E.t.K 0 x (must true σ1)=(q,σ2):=HT1.out ▸ hc2;rw [hc2] at hh ⊢;dsimp only at hh;have bL:=XAA hc3;clear hc2 hc3;have k9:w6.cell? (s,9)=I σ2.t.pc:=hh.cell 9;rw [ht2,hp] at k9;have k13:w6.cell? (s,13)=I σ2.t.aq:=hh.cell 13;have f13:=hh.frz 13;have hF:(σ1.t.F:Int)<=16:=by { have:=XBY jh;have e:(σ1.t.F:Int)=V:=(by rw [HT1.out];exact HV.out);omega }
     have wv:IntKind.i64.wrap (σ1.t.F:Int)=σ1.t.F:=XAM _ qd;have wv1:IntKind.i64.wrap ((σ1.t.F:Int)-1)=σ1.t.F-1:=XAM _ qd;have l9:∀z:Int,(w6.setCell (s,13) (I z)).cell? (s,9)=I σ2.t.pc:=λz=>(hh.mP z).cell 9;rw [ht2,hp] at l9;have e1:decide (E.t.pc=24)=false:=by rw [hp];rfl
     cases q
     .go_wp2_with (first|(go_at_call 289;(refine(mE _ _ _ _ hh).mono ?_);rintro e w9 ⟨rfl,h9,r9⟩;replace hh:=h9;replace rr:=Rws.trans rr r9));refine Xe ?_;have hq:=HQ.out;have hpk:=HP.out;have hc:=bL.out;have hB:(((0:Int)==0) && ((decide (E.t.F=0)==false) && decide ((E.t.F:Int)<=c.O)))=true:=by rw [<-mf.out,<-mZ.out,hvb,jh];rfl
      exact⟨R,hh.eq qbm,rr⟩
     .go_wp2_with (first|(go_at_call 289;(refine(mE _ _ _ _ (hh.mP ((σ1.t.F:Int)-1))).mono ?_);rintro e w9 ⟨rfl,h9,r9⟩;replace hh:=h9;replace rr:=Rws.trans (Fr.set rr 13 (I ((σ1.t.F:Int)-1))) r9));refine Xe ?_;have hq:=HQ.out;have hpk:=HP.out;have hc:=bL.out;have hB:(((0:Int)==0) && ((decide (E.t.F=0)==false) && decide ((E.t.F:Int)<=c.O)))=true:=by rw [<-mf.out,<-mZ.out,hvb,jh];rfl
      exact⟨R,hh.eq qbl,rr⟩
    .go_wp2_with (first|(go_at_call 292;(refine(flMustS _ true hh).mono ?_);rintro e w4 ⟨rfl,h4,r4⟩;replace hh:=h4;replace rr:=Rws.trans rr r4;have k24:w4.cell? (s,24)=some (.bool true):=qp));refine Xe ?_;exact⟨R,hh.eq (LF.out (.inl HB.out)).symm,rr⟩
   .have jh:decide (V<=(c.O:Int))=false:=XAS ho;have hh:=HH.out;have rr:=RR.out;(refine bN 27 (wp.heap.size) ?_;intro hxc aA hxh hxn;simp only [List.take,List.drop];(repeat (go_big_quiet_step (fail)));refine XAG ?_;clear hxc aA hxh hxn;intro w1 hb1 hz1 hc1 hf1);replace hh:=hh.below hb1;replace rr:=Fr.below rr hb1;go_wp2_with (first|(go_at_call 292;(refine(flMustS _ false hh).mono ?_);rintro e w4 ⟨rfl,h4,r4⟩;replace hh:=h4;replace rr:=Rws.trans rr r4;have k24:w4.cell? (s,24)=some (.bool true):=qn));refine Xe ?_;exact⟨R,hh.eq (leaf false qde (.inr R)).symm,rr⟩
 .have heb:(er==0)=false:=by simp [he]
  have hh:=HH.out;have rr:=RR.out;(refine bN 27 (wp.heap.size) ?_;intro hxc aA hxh hxn;simp only [List.take,List.drop];(repeat (go_big_quiet_step (fail)));refine XAG ?_;clear hxc aA hxh hxn;intro w1 hb1 hz1 hc1 hf1);replace hh:=hh.below hb1;replace rr:=Fr.below rr hb1;go_wp2_with (first|(go_at_call 292;(refine(flMustS _ false hh).mono ?_);rintro e w4 ⟨rfl,h4,r4⟩;replace hh:=h4;replace rr:=Rws.trans rr r4;have k24:w4.cell? (s,24)=some (.bool true):=qn));refine Xe ?_;exact⟨R,hh.eq (leaf false (by rw [heb];rfl) (.inr R)).symm,rr⟩):p:=x
theorem T6:aef 23:=aee
theorem T8:aef 39:=aee
theorem T7(w:World)(h:FlW w s mb g c E)(hn:E.n<=1000000)(hp:E.t.pc=24):Z 237 #[(s,0)] w λe w'=>
  e=.returned (.tuple #[])/\FlW w' s mb g c (eu c E)/\Fr s mb g w w':=by
 have c2:=h.c.o16;have yR:IntKind.u64.wrap (c.O:Int)=c.O:=qcj
 obtain⟨i,o,f,l,σ1,hq⟩:∃i o f l σ1,cY E=(⟨i,o,f,l⟩,σ1):=qcq;have ht1:σ1.t=E.t:=qdl;have hn1:σ1.n<=1000000:=qcg;have HS:=vu w h;rw [hq] at HS;dsimp only at HS;have HC:=XAA HS;have HQ:=XAA hq;have hpk:∃(x:Nat)(er:Int),eM i o false l=((x:Int),er)/\x<U64:=by
  obtain⟨v,er,hv⟩:∃v er,eM i o false l=(v,er):=⟨_,_,R⟩;have hb:0<=v/\v<262144:=by
   unfold eM at hv;split at hv
   .rename_i hm;have:=zo hm;cases hv;exact this
   .cases hv;exact⟨qf,qf⟩
  obtain⟨x,rfl⟩:=XAb hb.1;exact⟨x,er,hv,qv⟩
 obtain⟨x,er,hpk,hx⟩:=hpk;have HP:=XAA hpk;have k9:w.cell? (s,9)=I E.t.pc:=h.cell 9;rw [hp] at k9;have hlt:=h.lt;have h00:(0:Nat)<U64:=qf
 clear h hq HS hpk;go_enter func237,ntmps237;go_wp2_with fail;refine(HC.out).mono ?_;rintro e w2 ⟨rfl,hh,rr⟩;have hl:=hh.bj;have Bn:=ak.new w2 364 #[I 0,I 0,.bool false,.bool false];clear HC;go_wp2_with (first|(refine aU R 364 _ _ R _ R R Bn R qh qk ?_;intro w8 aC kb8;have kc8:=kb8.cell;have kf8:=kb8.frozen;clear kb8)|(go_at_call 297;(refine(wJ _ _ _ _ (x:Int) er HP.out _).mono ?_);rintro e wp ⟨rfl,hb1⟩;replace hh:=((hh.alloc (.cells #[I 0,I 0,.bool false,.bool false] 364)).rws (aC.rws.set (g:=w2.heap.size) ql 2 (.bool false)) qj qj qj).below hb1;replace rr:=Fr.below (Fr.over rr (aC.rws.set (g:=w2.heap.size) ql 2 (.bool false)) rr.size) hb1;clear kc8 kf8 aC hb1));clear hl Bn k9;obtain⟨V,hV⟩:=Xq ((E.t.F:Int));have hV0:(V==0)=decide (E.t.F=0):=qhq
 have o6:decide (V<=c.O)=decide ((E.t.F:Int)<=c.O):=by rw [hV]
 have k9:wp.cell? (s,9)=I σ1.t.pc:=hh.cell 9;rw [ht1,hp] at k9;have k16:wp.cell? (s,16)=J V:=qhd
 have k3:wp.cell? (s,3)=I c.O:=hh.cell 3;have lW:=hh.lt;have IH:0<=V:=qd
 have HV:=XAA hV;have mf:=XAA hV0;have mZ:=XAA o6;clear hV hV0 o6;have HT1:=XAA ht1;clear ht1;have HH:=XAA hh;have RR:=XAA rr;clear hh rr;have leaf:∀b:Bool,((er==0) && ((decide (E.t.F=0)==true) && decide ((E.t.F:Int)<=c.O)))=b->σ1.bad=true\/b=false->eu c E=must b σ1:=by
  intro b hb hd;have e1:decide (E.t.pc=24)=true:=qjw
  have hq:=HQ.out;have hpk:=HP.out;simp only [eu,e1,hq,cond_true,XCS,hpk,hb];rw [XAE];rcases hd with hd|hd<;>simp [must,hd]
 by_cases he:er=0
 .subst he;by_cases hv:V=0
  .have hvb:(V==0)=true:=by simp [hv]
   have jh:decide (V<=(c.O:Int))=true:=XAR qd;have lf:=leaf true qde;obtain⟨bd,hbd⟩:=Xq σ1.bad;have HB:=XAA hbd;have LF:=XAA lf;have Lf:=XAA leaf;clear hbd lf leaf;have hh:=HH.out;have rr:=RR.out;(refine bN 27 (wp.heap.size) ?_;intro hxc aA hxh hxn;simp only [List.take,List.drop];(repeat (go_big_quiet_step (fail)));refine XAG ?_;clear hxc aA hxh hxn;intro w1 hb1 hz1 hc1 hf1);replace hh:=hh.below hb1;replace rr:=Fr.below rr hb1;clear k9 k16 k3 hc1 hf1;cases bd
   .go_wp2_with (first|(go_at_call 292;(refine(flMustS _ true hh).mono ?_);rintro e w4 ⟨rfl,h4,r4⟩;replace hh:=h4;replace rr:=Rws.trans rr r4;have k24:w4.cell? (s,24)=some (.bool false):=qp));replace hh:=hh.drew;replace rr:=Rws.drew rr;have hn2:(must true σ1).n<=1000000:=hn1;go_region_held3 (λw'=>bH w' s c (w'.cell? (s,12)=I σ1.t.ai/\w'.cell? (s,16)=J σ1.t.F/\w'.cell? (s,17)=J σ1.t.K)) (first|exact Xk) (first|(go_at_call 198;refine(fX hh.c σ1.t.ai _).mono ?_;rintro e w1 ⟨rfl,hb1⟩;replace hh:=hh.below hb1;replace rr:=Fr.below rr hb1)|(go_at_call 290;(refine(flCas2 _ hh hn2 (bE c σ1.t.ai) σ1.t.F σ1.t.K 0 x h00 hx).mono ?_);rintro e w6 ⟨rfl,h6,r6⟩;replace hh:=h6;replace rr:=Rws.trans rr r6));obtain⟨q,σ2,hc2⟩:∃q σ2,cas2S (bE c σ1.t.ai) σ1.t.F σ1.t.K 0 x (must true σ1)=(q,σ2):=⟨_,_,R⟩;have ht2:σ2.t=E.t:=by rw [show σ2=(cas2S (bE c σ1.t.ai) σ1.t.F σ1.t.K 0 x (must true σ1)).2 by rw [hc2]];exact HT1.out
    have hc3:cas2S (bE c E.t.ai) E.t.F E.t.K 0 x (must true σ1)=(q,σ2):=HT1.out ▸ hc2;rw [hc2] at hh ⊢;dsimp only at hh;have bL:=XAA hc3;clear hc2 hc3;have k9:w6.cell? (s,9)=I σ2.t.pc:=hh.cell 9;rw [ht2,hp] at k9;have e1:decide (E.t.pc=24)=true:=qjw
    cases q
    .go_wp2_with (first|(go_at_call 289;(refine(mE _ _ _ _ hh).mono ?_);rintro e w9 ⟨rfl,h9,r9⟩;replace hh:=h9;replace rr:=Rws.trans rr r9));refine Xe ?_;have hq:=HQ.out;have hpk:=HP.out;have hc:=bL.out;have hB:(((0:Int)==0) && ((decide (E.t.F=0)==true) && decide ((E.t.F:Int)<=c.O)))=true:=by rw [<-mf.out,<-mZ.out,hvb,jh];rfl
     exact⟨R,hh.eq (by simp only [eu,e1,hq,cond_true,XCS,hpk,hB];rw [XAD qbi,XBQ,hc];rw [XAE R,hp];rfl),rr⟩
    .go_wp2_with (first|(go_at_call 296;refine(flTo _ (30) hh).mono ?_;rintro e w5 ⟨rfl,h5,r5⟩;replace hh:=h5;replace rr:=Rws.trans rr r5));refine Xe ?_;have hq:=HQ.out;have hpk:=HP.out;have hc:=bL.out;have hB:(((0:Int)==0) && ((decide (E.t.F=0)==true) && decide ((E.t.F:Int)<=c.O)))=true:=by rw [<-mf.out,<-mZ.out,hvb,jh];rfl
     exact⟨R,hh.eq (by simp only [eu,e1,hq,cond_true,XCS,hpk,hB];rw [XAD qbi,XBQ,hc];simp),rr⟩
   .go_wp2_with (first|(go_at_call 292;(refine(flMustS _ true hh).mono ?_);rintro e w4 ⟨rfl,h4,r4⟩;replace hh:=h4;replace rr:=Rws.trans rr r4;have k24:w4.cell? (s,24)=some (.bool true):=qp));refine Xe ?_;exact⟨R,hh.eq (LF.out (.inl HB.out)).symm,rr⟩
  .have hvb:(V==0)=false:=by simp [hv]
   have hh:=HH.out;have rr:=RR.out;(refine bN 27 (wp.heap.size) ?_;intro hxc aA hxh hxn;simp only [List.take,List.drop];(repeat (go_big_quiet_step (fail)));refine XAG ?_;clear hxc aA hxh hxn;intro w1 hb1 hz1 hc1 hf1);replace hh:=hh.below hb1;replace rr:=Fr.below rr hb1;go_wp2_with (first|(go_at_call 292;(refine(flMustS _ false hh).mono ?_);rintro e w4 ⟨rfl,h4,r4⟩;replace hh:=h4;replace rr:=Rws.trans rr r4;have k24:w4.cell? (s,24)=some (.bool true):=qn));refine Xe ?_;exact⟨R,hh.eq (leaf false qjv (.inr R)).symm,rr⟩
 .have heb:(er==0)=false:=by simp [he]
  have hh:=HH.out;have rr:=RR.out;(refine bN 27 (wp.heap.size) ?_;intro hxc aA hxh hxn;simp only [List.take,List.drop];(repeat (go_big_quiet_step (fail)));refine XAG ?_;clear hxc aA hxh hxn;intro w1 hb1 hz1 hc1 hf1);replace hh:=hh.below hb1;replace rr:=Fr.below rr hb1;go_wp2_with (first|(go_at_call 292;(refine(flMustS _ false hh).mono ?_);rintro e w4 ⟨rfl,h4,r4⟩;replace hh:=h4;replace rr:=Rws.trans rr r4;have k24:w4.cell? (s,24)=some (.bool true):=qn));refine Xe ?_;exact⟨R,hh.eq (leaf false (by rw [heb];rfl) (.inr R)).symm,rr⟩
end
section
open Go.Shelf
def aZ(c:Ch)(pc:Int)(E:St):St:=
 if pc=20 then tG c E else if pc=21 then nE c E else if pc=22 then jG c E else if pc=23 then eu c E else if pc=24 then eu c E else if pc=30 then tL c E else if pc=31 then oT c E else if pc=32 then oU c E else if pc=33 then tM c E else if pc=34 then tJ c E else if pc=35 then mD c E else if pc=36 then lE c E else if pc=37 then nE c E else if pc=38 then jG c E else if pc=39 then eu c E else if pc=40 then rR c E else if pc=41 then tH c E else if pc=42 then nG c E else if pc=43 then nF c E else if pc=44 then rQ c E else if pc=46 then tK c E else if pc=47 then tF c E else if pc=48 then tI c E else if pc=49 then lE c E else E
def gz(pc:Int):Prop:=pc=20\/pc=21\/pc=22\/pc=23\/pc=24\/pc=30\/pc=31\/pc=32\/pc=33\/pc=34\/pc=35\/pc=36\/pc=37\/pc=38\/pc=39\/pc=40\/pc=41\/pc=42\/pc=43\/pc=44\/pc=46\/pc=47\/pc=48\/pc=49
section
variable{mb g:Nat}{c:Ch}{ws:List Nat}{n:Nat}
theorem TX(w:World)(hM:MW w mb g c ws n)(hn:n<=1000000)(t:Tk)(ht:t.Ok)(h0:t.az=0)(h1:t.aB=0)(hg:fD w w.heap.size mb g)(hp:gz t.pc):
  Z 155 #[(mb,0),dh c,aH t] w (zZ t (aZ c t.pc ⟨t,false,ws,n⟩) mb g c w):=by
 obtain⟨ar,aj,pc,az,aB,ai,aq,H,T,F,K,N,au,ay,to,aw,fr⟩:=t;dsimp only at h0 h1 hp;subst h0 h1;rcases hp with rfl|rfl|rfl|rfl|rfl|rfl|rfl|rfl|rfl|rfl|rfl|rfl|rfl|rfl|rfl|rfl|rfl|rfl|rfl|rfl|rfl|rfl|rfl|rfl
 .exact eJ w hM _ ht R R hg 20 qf R 234 (λ_=>rfl) (enters_of func234 qh R) _ (λW s h hg=>by
   have:=TI W h hn
   simpa [aZ] using this)
 .exact eJ w hM _ ht R R hg 21 qf R 235 (λ_=>rfl) (enters_of func235 qh R) _ (λW s h hg=>by
   have:=Hs W h hn hg 21 R (.inl R)
   simpa [aZ] using this)
 .exact eJ w hM _ ht R R hg 22 qf R 236 (λ_=>rfl) (enters_of func236 qh R) _ (λW s h hg=>by
   have:=Hq W h hn 22 R (.inl R)
   simpa [aZ] using this)
 .exact eJ w hM _ ht R R hg 23 qf R 237 (λ_=>rfl) (enters_of XCd qh R) _ (λW s h hg=>by
   have:=T6 W h hn rfl
   simpa [aZ] using this)
 .exact eJ w hM _ ht R R hg 24 qf R 237 (λ_=>rfl) (enters_of XCd qh R) _ (λW s h hg=>by
   have:=T7 W h hn rfl
   simpa [aZ] using this)
 .exact eJ w hM _ ht R R hg 30 qf R 238 (λ_=>rfl) (enters_of func238 qh R) _ (λW s h hg=>by
   have:=TS W h hn hg rfl
   simpa [aZ] using this)
 .exact eJ w hM _ ht R R hg 31 qf R 239 (λ_=>rfl) (enters_of func239 qh R) _ (λW s h hg=>by
   have:=TM W h hn
   simpa [aZ] using this)
 .exact eJ w hM _ ht R R hg 32 qf R 240 (λ_=>rfl) (enters_of func240 qh R) _ (λW s h hg=>by
   have:=TR W h hn
   simpa [aZ] using this)
 .exact eJ w hM _ ht R R hg 33 qf R 241 (λ_=>rfl) (enters_of func241 qh R) _ (λW s h hg=>by
   have:=TZ W h hn
   simpa [aZ] using this)
 .exact eJ w hM _ ht R R hg 34 qf R 242 (λ_=>rfl) (enters_of func242 qh R) _ (λW s h hg=>by
   have:=TP W h hn
   simpa [aZ] using this)
 .exact eJ w hM _ ht R R hg 35 qf R 243 (λ_=>rfl) (enters_of func243 qh R) _ (λW s h hg=>by
   have:=TU W h hn
   simpa [aZ] using this)
 .exact eJ w hM _ ht R R hg 36 qf R 244 (λ_=>rfl) (enters_of XDc qh R) _ (λW s h hg=>by
   have:=Ht W h hn hg 36 R (.inl R)
   simpa [aZ] using this)
 .exact eJ w hM _ ht R R hg 37 qf R 235 (λ_=>rfl) (enters_of func235 qh R) _ (λW s h hg=>by
   have:=Hs W h hn hg 37 R (.inr R)
   simpa [aZ] using this)
 .exact eJ w hM _ ht R R hg 38 qf R 236 (λ_=>rfl) (enters_of func236 qh R) _ (λW s h hg=>by
   have:=Hq W h hn 38 R (.inr R)
   simpa [aZ] using this)
 .exact eJ w hM _ ht R R hg 39 qf R 237 (λ_=>rfl) (enters_of XCd qh R) _ (λW s h hg=>by
   have:=T8 W h hn rfl
   simpa [aZ] using this)
 .exact eJ w hM _ ht R R hg 40 qf R 245 (λ_=>rfl) (enters_of func245 qh R) _ (λW s h hg=>by
   have:=TT W h hn hg rfl
   simpa [aZ] using this)
 .exact eJ w hM _ ht R R hg 41 qf R 246 (λ_=>rfl) (enters_of func246 qh R) _ (λW s h hg=>by
   have:=TK W h hn hg rfl
   simpa [aZ] using this)
 .exact eJ w hM _ ht R R hg 42 qf R 247 (λ_=>rfl) (enters_of func247 qh R) _ (λW s h hg=>by
   have:=TL W h hn
   simpa [aZ] using this)
 .exact eJ w hM _ ht R R hg 43 qf R 248 (λ_=>rfl) (enters_of func248 qh R) _ (λW s h hg=>by
   have:=TJ W h hn
   simpa [aZ] using this)
 .exact eJ w hM _ ht R R hg 44 qf R 249 (λ_=>rfl) (enters_of func249 qh R) _ (λW s h hg=>by
   have:=TO W h hn
   simpa [aZ] using this)
 .exact eJ w hM _ ht R R hg 46 qf R 250 (λ_=>rfl) (enters_of func250 qh R) _ (λW s h hg=>by
   have:=TQ W h hn hg rfl
   simpa [aZ] using this)
 .exact eJ w hM _ ht R R hg 47 qf R 251 (λ_=>rfl) (enters_of func251 qh R) _ (λW s h hg=>by
   have:=TF W h hn hg rfl
   simpa [aZ] using this)
 .exact eJ w hM _ ht R R hg 48 qf R 252 (λ_=>rfl) (enters_of func252 qh R) _ (λW s h hg=>by
   have:=TN W h hn hg rfl
   simpa [aZ] using this)
 .exact eJ w hM _ ht R R hg 49 qf R 244 (λ_=>rfl) (enters_of XDc qh R) _ (λW s h hg=>by
   have:=Ht W h hn hg 49 R (.inr R)
   simpa [aZ] using this)
end
end
structure sU(t:Tk)(E:St):Prop where
 aj:E.t.aj=t.aj
 aB:E.t.aB=0
 nx:E.bad=false->E.t.az=0->Nx E.t.pc
section
variable{c:Ch}{t:Tk}{ws:List Nat}{n:Nat}
theorem Hb(aq again:Int)(hw:t.aB=0)(hp:Nx t.pc)(ha:Nx again):sU t (iO c aq again ⟨t,false,ws,n⟩):=by
 unfold iO;dsimp only;split
 .exact⟨R,hw,λ_ _=>hp⟩
 .split
  .exact⟨R,hw,λ_ h=>qck⟩
  .exact⟨R,hw,λ_ _=>ha⟩
theorem Hf(hw:t.aB=0)(hp:t.pc=0\/t.pc=1\/t.pc=2\/t.pc=3\/t.pc=10\/t.pc=11\/t.pc=12\/t.pc=13):sU t (dU c t.pc ⟨t,false,ws,n⟩):=by
 obtain⟨ar,aj,pc,az,aB,ai,aq,H,T,F,K,N,au,ay,to,aw,fr⟩:=t;dsimp only at hw hp;rcases hp with rfl|rfl|rfl|rfl|rfl|rfl|rfl|rfl
 .exact⟨R,hw,λ_ _=>by show Nx (0+1);decide⟩
 .show sU _ (nA c _);unfold nA;dsimp only;split
  .exact⟨R,hw,λ_ _=>by show Nx 30;decide⟩
  .split
   .exact⟨R,hw,λ_ _=>by show Nx 20;decide⟩
   .exact⟨R,hw,λ_ _=>by show Nx 2;decide⟩
 .show sU _ (nB c _);unfold nB;dsimp only;split
  .exact⟨R,hw,λ_ _=>by show Nx 0;decide⟩
  .exact⟨R,hw,λ_ _=>by show Nx 3;decide⟩
 .exact Hb _ _ hw (by show Nx 3;decide) qf
 .exact⟨R,hw,λ_ _=>by show Nx (10+1);decide⟩
 .show sU _ (mB c _);unfold mB;dsimp only;split
  .exact⟨R,hw,λ_ _=>by show Nx 12;decide⟩
  .exact⟨R,hw,λ_ _=>by show Nx 50;decide⟩
 .show sU _ (nC c _);unfold nC;dsimp only;split
  .exact⟨R,hw,λ_ _=>by show Nx 13;decide⟩
  .exact⟨R,hw,λ_ _=>by show Nx 13;decide⟩
 .exact Hb _ _ hw (by show Nx 13;decide) qf
theorem LG{E:St}(h:E.t.aj=t.aj):(eW t E).aj=t.aj:=by unfold eW;split;rfl;exact h
theorem Te(hw:t.aB=0)(hp:t.pc=0\/t.pc=1\/t.pc=2\/t.pc=3\/t.pc=10\/t.pc=11\/t.pc=12\/t.pc=13)(ho:(eW t (dU c t.pc ⟨t,false,ws,n⟩)).Ok)(h0:(eW t (dU c t.pc ⟨t,false,ws,n⟩)).az=0):cR (eW t (dU c t.pc ⟨t,false,ws,n⟩)):=by
 have hl:=Hf (c:=c) (ws:=ws) (n:=n) hw hp;generalize dU c t.pc ⟨t,false,ws,n⟩=E at*;unfold eW at*;by_cases hb:E.bad=true
 .rw [XAE hb] at h0;cases h0
 .rw [XAD hb] at*;exact⟨ho,.inl hl.aB,λh=>by rcases h with h|h;(rw [hl.aB] at h;cases h);exact absurd (hl.nx (by simpa using hb) h0) h.2,λh=>by rw [hl.aB] at h;cases h⟩
structure cF(t:Tk)(E:St):Prop where
 aj:E.t.aj=t.aj
 aB:E.t.aB=0\/(E.t.aB=1/\E.t.pc=43)
 nx:E.t.aB=0->E.bad=false->E.t.az=0->¬Nx E.t.pc->0<=E.t.ai/\E.t.ai<32
theorem cF.plain{E:St}(h1:E.t.aj=t.aj)(h2:E.t.aB=0)(h3:Nx E.t.pc):cF t E:=⟨h1,.inl h2,λ_ _ _ h=>absurd h3 h⟩
theorem cF.rO{E:St}(b:Bool)(x y:Int)(h1:E.t.aj=t.aj)(h2:E.t.aB=0)(hx:Nx x)(hy:Nx y):cF t (either b x y E):=by
 unfold either;split
 .exact cF.plain h1 h2 hx
 .exact cF.plain h1 h2 hy
theorem D9(hw:t.aB=0)(hp:t.pc=23\/t.pc=24\/t.pc=39):cF t (eu c ⟨t,false,ws,n⟩):=by
 unfold eu;dsimp only;have hnx:Nx t.pc:=by rcases hp with h|h|h<;>(rw [h];decide)
 split
 .exact cF.plain R hw hnx
 .split
  .exact cF.rO _ _ _ R hw qf qf
  .split
   .exact cF.plain R hw (by show Nx 30;decide)
   .exact cF.rO _ _ _ R hw qf qf
theorem eI(f:Ch->St->St)(pc:Int)(h:aZ c pc=f c){E:St}(hf:cF t (f c E)):cF t (aZ c pc E):=by rw [h];exact hf
theorem Hk(hw:t.aB=0)(hs:¬Nx t.pc->0<=t.ai/\t.ai<32)(hp:gz t.pc):cF t (aZ c t.pc ⟨t,false,ws,n⟩):=by
 obtain⟨ar,aj,pc,az,aB,ai,aq,H,T,F,K,N,au,ay,to,aw,fr⟩:=t;dsimp only at hw hp hs;rcases hp with rfl|rfl|rfl|rfl|rfl|rfl|rfl|rfl|rfl|rfl|rfl|rfl|rfl|rfl|rfl|rfl|rfl|rfl|rfl|rfl|rfl|rfl|rfl|rfl
 .refine eI tG 20 qo ?_;exact cF.rO _ _ _ R hw qf qf
 .refine eI nE 21 qo ?_;exact cF.plain R hw (by show Nx (eL 21);decide)
 .refine eI jG 22 qo ?_;unfold jG;dsimp only;split
  .exact cF.plain R hw (by show Nx 39;decide)
  .exact cF.rO _ _ _ R hw qf qf
 .refine eI eu 23 qo ?_;exact D9 hw (.inl R)
 .refine eI eu 24 qo ?_;exact D9 hw (.inr (.inl R))
 .refine eI tL 30 qo ?_;exact cF.plain R hw (by show Nx (eL 30);decide)
 .refine eI oT 31 qo ?_;unfold oT;dsimp only;split
  .exact cF.plain R hw (by show Nx 34;decide)
  .exact cF.plain R hw (by show Nx 32;decide)
 .refine eI oU 32 qo ?_;unfold oU;dsimp only;split
  .exact cF.plain R hw (by show Nx 30;decide)
  .exact cF.plain R hw (by show Nx 33;decide)
 .refine eI tM 33 qo ?_;exact cF.rO _ _ _ R hw qf qf
 .refine eI tJ 34 qo ?_;exact cF.rO _ _ _ R hw qf qf
 .refine eI mD 35 qo ?_;unfold mD;dsimp only;split
  .exact cF.plain R hw (by show Nx 36;decide)
  .exact cF.plain R hw (by show Nx 37;decide)
 .refine eI lE 36 qo ?_;exact⟨R,.inr ⟨R,R⟩,λh=>qck⟩
 .refine eI nE 37 qo ?_;exact cF.plain R hw (by show Nx (eL 37);decide)
 .refine eI jG 38 qo ?_;unfold jG;dsimp only;split
  .exact cF.plain R hw (by show Nx 39;decide)
  .exact cF.rO _ _ _ R hw qf qf
 .refine eI eu 39 qo ?_;exact D9 hw (.inr (.inr R))
 .refine eI rR 40 qo ?_;exact cF.plain R hw (by show Nx (eL 40);decide)
 .refine eI tH 41 qo ?_;exact cF.plain R hw (by show Nx (eL 41);decide)
 .refine eI nG 42 qo ?_;unfold nG;dsimp only;split
  .exact cF.plain R hw (by show Nx 42;decide)
  .split
   .exact⟨R,.inl hw,λ_ _ h=>qck⟩
   .exact cF.plain R hw (by show Nx 41;decide)
 .refine eI nF 43 qo ?_;have h1:=hs qf;unfold nF either;dsimp only;repeat' split
  all_goals exact⟨R,.inl hw,λ_ _ _ _=>h1⟩
 .refine eI rQ 44 qo ?_;exact cF.plain R hw (by show Nx 40;decide)
 .refine eI tK 46 qo ?_;exact cF.plain R hw (by show Nx (eL 46);decide)
 .refine eI tF 47 qo ?_;exact cF.plain R hw (by show Nx (eL 47);decide)
 .refine eI tI 48 qo ?_;exact cF.plain R hw (by show Nx (eL 48);decide)
 .refine eI lE 49 qo ?_;exact cF.plain R hw (by show Nx (eL 49);decide)
theorem Tw(hw:t.aB=0)(hs:¬Nx t.pc->0<=t.ai/\t.ai<32)(hp:gz t.pc)(ho:(eW t (aZ c t.pc ⟨t,false,ws,n⟩)).Ok)(h0:(eW t (aZ c t.pc ⟨t,false,ws,n⟩)).az=0):cR (eW t (aZ c t.pc ⟨t,false,ws,n⟩)):=by
 have hl:=Hk (c:=c) (ws:=ws) (n:=n) hw hs hp;generalize aZ c t.pc ⟨t,false,ws,n⟩=E at*;unfold eW at*;by_cases hb:E.bad=true
 .rw [XAE hb] at h0;cases h0
 .rw [XAD hb] at*;refine⟨ho,hl.aB.imp id (λh=>.inl h.1),λh=>?_,λh=>?_⟩
  .rcases hl.aB with h1|h1
   .exact hl.nx h1 (by simpa using hb) h0 (h.elim (λh2=>qd) And.right)
   .omega
  .rcases hl.aB with h1|h1
   .omega
   .exact h1.2
end
section
variable{w:World}{s mb g:Nat}{c:Ch}{E:St}{ws:List Nat}{n:Nat}
theorem TH(w:World)(h:FlW w s mb g c E)(hp:E.t.pc<0\/50<=E.t.pc):Z 205 #[(s,0)] w λe w'=>
  e=.returned .nilFunc/\Below w w w':=by
 have hmf:= @iv;have hlt:=h.lt;obtain⟨p,hpp⟩:=Xq E.t.pc;have k9:w.cell? (s,9)=I p:=hpp ▸ h.cell 9;rw [hpp] at hp;have Bn:=ak.new w 341 #[.nilFunc,.nilFunc,.nilFunc,.nilFunc,.nilFunc,.nilFunc,.nilFunc,.nilFunc,.nilFunc,.nilFunc,.nilFunc,.nilFunc,.nilFunc,.nilFunc,.nilFunc,.nilFunc,.nilFunc,.nilFunc,.nilFunc,.nilFunc,.nilFunc,.nilFunc,.nilFunc,.nilFunc,.nilFunc,.nilFunc,.nilFunc,.nilFunc,.nilFunc,.nilFunc,.nilFunc,.nilFunc,.nilFunc,.nilFunc,.nilFunc,.nilFunc,.nilFunc,.nilFunc,.nilFunc,.nilFunc,.nilFunc,.nilFunc,.nilFunc,.nilFunc,.nilFunc,.nilFunc,.nilFunc,.nilFunc,.nilFunc,.nilFunc];clear h hpp;rcases hp with hp|hp
 .go_enter func205,ntmps205;go_wp2_with (first|(refine aU R 341 _ _ R (rL s) R R Bn R qh (B6 s) ?_;intro w8 aC kb8;have JL:=(aC.cell s 9 qd).trans ((XA9 w (.cells #[.nilFunc,.nilFunc,.nilFunc,.nilFunc,.nilFunc,.nilFunc,.nilFunc,.nilFunc,.nilFunc,.nilFunc,.nilFunc,.nilFunc,.nilFunc,.nilFunc,.nilFunc,.nilFunc,.nilFunc,.nilFunc,.nilFunc,.nilFunc,.nilFunc,.nilFunc,.nilFunc,.nilFunc,.nilFunc,.nilFunc,.nilFunc,.nilFunc,.nilFunc,.nilFunc,.nilFunc,.nilFunc,.nilFunc,.nilFunc,.nilFunc,.nilFunc,.nilFunc,.nilFunc,.nilFunc,.nilFunc,.nilFunc,.nilFunc,.nilFunc,.nilFunc,.nilFunc,.nilFunc,.nilFunc,.nilFunc,.nilFunc,.nilFunc] 341) ⟨s,9,none⟩ hlt).trans k9);clear kb8));go_ret;exact⟨R,aI qa aC (XAB _)⟩
 .have hp0:¬p<0:=by omega
  go_enter func205,ntmps205;go_wp2_with (first|(refine aU R 341 _ _ R (rL s) R R Bn R qh (B6 s) ?_;intro w8 aC kb8;have JL:=(aC.cell s 9 qd).trans ((XA9 w (.cells #[.nilFunc,.nilFunc,.nilFunc,.nilFunc,.nilFunc,.nilFunc,.nilFunc,.nilFunc,.nilFunc,.nilFunc,.nilFunc,.nilFunc,.nilFunc,.nilFunc,.nilFunc,.nilFunc,.nilFunc,.nilFunc,.nilFunc,.nilFunc,.nilFunc,.nilFunc,.nilFunc,.nilFunc,.nilFunc,.nilFunc,.nilFunc,.nilFunc,.nilFunc,.nilFunc,.nilFunc,.nilFunc,.nilFunc,.nilFunc,.nilFunc,.nilFunc,.nilFunc,.nilFunc,.nilFunc,.nilFunc,.nilFunc,.nilFunc,.nilFunc,.nilFunc,.nilFunc,.nilFunc,.nilFunc,.nilFunc,.nilFunc,.nilFunc] 341) ⟨s,9,none⟩ hlt).trans k9);clear kb8));go_ret;exact⟨R,aI qa aC (XAB _)⟩
theorem TG(w:World)(h:FlW w s mb g c E)(hp:¬gz E.t.pc):Z 205 #[(s,0)] w λe w'=>
  e=.returned .nilFunc/\Below w w w':=by
 by_cases hr:E.t.pc<0\/50<=E.t.pc
 .exact TH w h hr
 .obtain⟨k,hk⟩:=XAb (a:=E.t.pc) qd;have hk5:k<50:=by omega
  refine Hr w h k hk5 .nilFunc ?_ hk;rw [hk] at hp;unfold gz at hp;have key:∀j:Fin 50,(¬(j.val=20\/j.val=21\/j.val=22\/j.val=23\/j.val=24\/j.val=30\/j.val=31\/j.val=32\/j.val=33\/j.val=34\/j.val=35\/j.val=36\/j.val=37\/j.val=38\/j.val=39\/j.val=40\/j.val=41\/j.val=42\/j.val=43\/j.val=44\/j.val=46\/j.val=47\/j.val=48\/j.val=49))->(rL s)[j.val]? =some .nilFunc:=by
   intro j hj
   match j,hj with
   |⟨0,_⟩,_=>rfl
   |⟨1,_⟩,_=>rfl
   |⟨2,_⟩,_=>rfl
   |⟨3,_⟩,_=>rfl
   |⟨4,_⟩,_=>rfl
   |⟨5,_⟩,_=>rfl
   |⟨6,_⟩,_=>rfl
   |⟨7,_⟩,_=>rfl
   |⟨8,_⟩,_=>rfl
   |⟨9,_⟩,_=>rfl
   |⟨10,_⟩,_=>rfl
   |⟨11,_⟩,_=>rfl
   |⟨12,_⟩,_=>rfl
   |⟨13,_⟩,_=>rfl
   |⟨14,_⟩,_=>rfl
   |⟨15,_⟩,_=>rfl
   |⟨16,_⟩,_=>rfl
   |⟨17,_⟩,_=>rfl
   |⟨18,_⟩,_=>rfl
   |⟨19,_⟩,_=>rfl
   |⟨20,_⟩,hj=>exact absurd ql hj
   |⟨21,_⟩,hj=>exact absurd ql hj
   |⟨22,_⟩,hj=>exact absurd ql hj
   |⟨23,_⟩,hj=>exact absurd ql hj
   |⟨24,_⟩,hj=>exact absurd ql hj
   |⟨25,_⟩,_=>rfl
   |⟨26,_⟩,_=>rfl
   |⟨27,_⟩,_=>rfl
   |⟨28,_⟩,_=>rfl
   |⟨29,_⟩,_=>rfl
   |⟨30,_⟩,hj=>exact absurd ql hj
   |⟨31,_⟩,hj=>exact absurd ql hj
   |⟨32,_⟩,hj=>exact absurd ql hj
   |⟨33,_⟩,hj=>exact absurd ql hj
   |⟨34,_⟩,hj=>exact absurd ql hj
   |⟨35,_⟩,hj=>exact absurd ql hj
   |⟨36,_⟩,hj=>exact absurd ql hj
   |⟨37,_⟩,hj=>exact absurd ql hj
   |⟨38,_⟩,hj=>exact absurd ql hj
   |⟨39,_⟩,hj=>exact absurd ql hj
   |⟨40,_⟩,hj=>exact absurd ql hj
   |⟨41,_⟩,hj=>exact absurd ql hj
   |⟨42,_⟩,hj=>exact absurd ql hj
   |⟨43,_⟩,hj=>exact absurd ql hj
   |⟨44,_⟩,hj=>exact absurd ql hj
   |⟨45,_⟩,_=>rfl
   |⟨46,_⟩,hj=>exact absurd ql hj
   |⟨47,_⟩,hj=>exact absurd ql hj
   |⟨48,_⟩,hj=>exact absurd ql hj
   |⟨49,_⟩,hj=>exact absurd ql hj
   |⟨j+50,h⟩,_=>exact absurd h qd
  exact key ⟨k,hk5⟩ (by simp only;omega)
theorem JI(w:World):(binOp .eql 1 .nilFunc .nilFunc).run prog w=.ok (.bool true) w:=qh
theorem TW(w:World)(hM:MW w mb g c ws n)(t:Tk)(ht:t.Ok)(h0:t.az=0)(h1:t.aB=0)(hp:¬gz t.pc):
  Z 155 #[(mb,0),dh c,aH t] w λe w'=>e=.returned (.tuple #[aH aO,I 292])/\Below w w w':=by
 have hl:=hM.lt;have hl2:=hM.jN;have hwd:((c.words:Int)==0)=false:=qbd
 have HM:=XAA hM;obtain⟨ar,aj,pc,az,aB,ai,aq,H,T,F,K,N,au,ay,to,aw,fr⟩:=t;dsimp only at h0 h1 hp;subst h0 h1;have HT:=XAA ht;have HP:=XAA hp;clear hM ht hp;go_enter func155,ntmps155;go_wp2_with (first|(go_at_call 202;refine Xr (pJ _ (HM.out.below qa)) ?_)|(go_at_call 203;refine(eH HM.out.c _).mono ?_;rintro e w2 ⟨rfl,hb1⟩;have Bt:ak w2 (w.heap.size+1) 210 #[I ar,I aj,I pc,I 0,I 0,I ai,I aq,J H,J T,J F,J K,J N,I au,I ay,I to,I aw,I fr]:=((ak.new2 w _ 210 _).alloc _).below hb1;have Br:ak w2 (w.heap.size+1+1) 210 #[I 0,I 0,I 0,I 0,I 0,I 0,I 0,J 0,J 0,J 0,J 0,J 0,I 0,I 0,I 0,I 0,I 0]:=(ak.g_ w _ _ 210 _).below hb1;have rc:w2.rangeAt w.heap.size 0 [I c.C,I 32,I c.O,I 1,I 2,J c.key]:=ak.range ((((ak.new w 249 _).alloc _).alloc _).below hb1);have rt:w2.rangeAt (w.heap.size+1) 0 [I ar,I aj,I pc,I 0,I 0,I ai,I aq,J H,J T,J F,J K,J N,I au,I ay,I to,I aw,I fr]:=ak.range Bt;have hbw:Below w w w2:=qa;clear hb1)|(refine wpList_load_mid R 210 _ R (w.heap.size+1) 0 R [I ar,I aj,I pc,I 0,I 0,I ai,I aq,J H,J T,J F,J K,J N,I au,I ay,I to,I aw,I fr] _ rt XAQ R qh ?_)|(refine wpList_load_mid R 249 _ R w.heap.size 0 R [I c.C,I 32,I c.O,I 1,I 2,J c.key] _ rc XCC R qh ?_));have hM2:=HM.out.below hbw;have hz:=hbw.size;have lr:=Br.lt;have hs:SW 314 (w2.alloc (.cells #[(mb,0),I c.C,I 32,I c.O,I 1,I 2,J c.key,I ar,I aj,I pc,I 0,I 0,I ai,I aq,J H,J T,J F,J K,J N,I au,I ay,I to,I aw,I fr,.bool false] 314)) w2.heap.size mb g c ⟨⟨ar,aj,pc,0,0,ai,aq,H,T,F,K,N,au,ay,to,aw,fr⟩,false,ws,n⟩:=hM2.step _ HT.out;replace Br:=Br.alloc (.cells #[(mb,0),I c.C,I 32,I c.O,I 1,I 2,J c.key,I ar,I aj,I pc,I 0,I 0,I ai,I aq,J H,J T,J F,J K,J N,I au,I ay,I to,I aw,I fr,.bool false] 314);have hbw2:Below w w (w2.alloc (.cells #[(mb,0),I c.C,I 32,I c.O,I 1,I 2,J c.key,I ar,I aj,I pc,I 0,I 0,I ai,I aq,J H,J T,J F,J K,J N,I au,I ay,I to,I aw,I fr,.bool false] 314)):=hbw.alloc hz _;clear rc rt hbw;refine(TG _ hs HP.out).mono ?_;rintro e w3 ⟨rfl,hb3⟩;replace Br:=Br.below hb3;have hbw3:=hbw2.trans (hb3.mono hbw2.size);clear hb3 hbw2;have hnf:=JI;go_wp2_with (first|(refine aU R 210 _ _ R _ R R (Br) R qh qk ?_;intro w8 aC kb8;have kc8:=kb8.cell));refine XAI (v:=.tuple #[aH aO,I 292]) (dc R _ _ qu qu (cn 210 kb8 XAQ R qh)) R ?_;exact⟨R,aI hbw3 aC qd⟩
end
section
variable{w:World}{mb g:Nat}{c:Ch}{ws:List Nat}{n:Nat}
theorem oX(w:World)(hM:MW w mb g c ws n)(t:Tk)(ht:t.Ok)(h0:t.az=0)(h1:t.aB=0)(fn:FuncId)(he:∀(args:Array Value)(W:World),(callFunc fn args).run prog W=.ok (.enter fn args) W)(ix:Nat)(hp:Instr.findNow (.int .i64) (I t.pc) oW 0=some (some (ix,.func (.func fn) #[] #[])))(F:St->St)(hd:dU c t.pc ⟨t,false,ws,n⟩=F ⟨t,false,ws,n⟩)(hfn:∀(W:World)(s:Nat),FsW W s mb g c ⟨t,false,ws,n⟩->Z fn #[(s,0)] W λe W'=>e=.returned (.tuple #[])/\FsW W' s mb g c (F ⟨t,false,ws,n⟩)/\Fr s mb g W W'):Z 154 #[(mb,0),dh c,aH t] w (yB t mb g c ws n w):=by
 have hl:=hM.lt;have hl2:=hM.jN;have hwd:((c.words:Int)==0)=false:=qbd
 have HM:=XAA hM;obtain⟨ar,aj,pc,az,aB,ai,aq,H,T,F',K,N,au,ay,to,aw,fr⟩:=t;dsimp only at h0 h1 hp;subst h0 h1;have HT:=XAA ht;have HF:=XAA hfn;have HP:=XAA hp;have HD:=XAA hd;clear hM ht hfn hp hd;go_enter func154,ntmps154;go_wp2_with (first|(go_at_call 202;refine Xr (pJ _ (HM.out.below qa)) ?_)|(go_at_call 203;refine(eH HM.out.c _).mono ?_;rintro e w1 ⟨rfl,hb1⟩;have Bc:ak w1 w.heap.size 249 #[I c.C,I 32,I c.O,I 1,I 2,J c.key]:=(((ak.new w 249 _).alloc _).alloc _).below hb1;have Bt:ak w1 (w.heap.size+1) 210 #[I ar,I aj,I pc,I 0,I 0,I ai,I aq,J H,J T,J F',J K,J N,I au,I ay,I to,I aw,I fr]:=((ak.new2 w _ 210 _).alloc _).below hb1;have Br:ak w1 (w.heap.size+1+1) 210 #[I 0,I 0,I 0,I 0,I 0,I 0,I 0,J 0,J 0,J 0,J 0,J 0,I 0,I 0,I 0,I 0,I 0]:=(ak.g_ w _ _ 210 _).below hb1;have hbw:Below w w w1:=qa;clear hb1));have hM1:=HM.out.below hbw;have k1:w1.drew.cell? (w.heap.size+1,2)=I pc:=Bt.cell 2;have hix:=HP.out;go_region_held3 (λw'=>w'.cell? (w.heap.size+1,2)=I pc) (assumption) (first|(go_at_call 204;refine(Ik _).mono ?_;rintro e w2 ⟨rfl,hw2⟩;have Bm:w2.heap[w1.heap.size]? =some (.map oW.toArray 8):=hw2 ▸ vP _ _;have hb2:Below w1 w1 w2:=hw2 ▸ (XAC _ _).drew.alloc (XAB _) _;clear hw2;have k2:w2.cell? (w.heap.size+1,2)=I pc:=(Bt.below hb2).cell 2)|(rw [Kf pc true (.func (.func fn) #[] #[]) Bm ⟨_,hix,.inr ⟨R,_,R⟩⟩]));have hM2:=hM1.below hb2;replace hbw:=hbw.trans (hb2.mono hbw.size);replace Bc:=Bc.below hb2;replace Bt:=Bt.below hb2;replace Br:=Br.below hb2;clear k1 k2 Bm hb2 hM1 hix;have hz:=hbw.size;have hs:SW 311 (w2.alloc (.cells #[(mb,0),I c.C,I 32,I c.O,I 1,I 2,J c.key,I ar,I aj,I pc,I 0,I 0,I ai,I aq,J H,J T,J F',J K,J N,I au,I ay,I to,I aw,I fr,.bool false] 311)) w2.heap.size mb g c ⟨⟨ar,aj,pc,0,0,ai,aq,H,T,F',K,N,au,ay,to,aw,fr⟩,false,ws,n⟩:=hM2.step _ HT.out;have hr0:Rws [mb,g] w (w2.alloc (.cells #[(mb,0),I c.C,I 32,I c.O,I 1,I 2,J c.key,I ar,I aj,I pc,I 0,I 0,I ai,I aq,J H,J T,J F',J K,J N,I au,I ay,I to,I aw,I fr,.bool false] 311)):=Rws.of_below _ (hbw.alloc hz _);obtain⟨σ',hσ⟩:∃σ',F ⟨⟨ar,aj,pc,0,0,ai,aq,H,T,F',K,N,au,ay,to,aw,fr⟩,false,ws,n⟩=σ':=⟨_,R⟩;have hc:=HF.out _ _ hs;rw [hσ] at hc;have HC:=XAA hc;replace HD:=XAA (HD.out.trans hσ);clear hc hσ;have lr:=Br.lt;have rt:w2.rangeAt (w.heap.size+1) 0 [I ar,I aj,I pc,I 0,I 0,I ai,I aq,J H,J T,J F',J K,J N,I au,I ay,I to,I aw,I fr]:=Bt.range;have rc:w2.rangeAt w.heap.size 0 [I c.C,I 32,I c.O,I 1,I 2,J c.key]:=Bc.range;have aT:w2.cell? (w.heap.size+1,3)=I 0:=Bt.cell 3;have dN:w2.cell? (w.heap.size+1,4)=I 0:=Bt.cell 4;go_wp2_with (first|(refine wpList_load_mid R 210 _ R (w.heap.size+1) 0 R [I ar,I aj,I pc,I 0,I 0,I ai,I aq,J H,J T,J F',J K,J N,I au,I ay,I to,I aw,I fr] _ rt XAQ R qh ?_)|(refine wpList_load_mid R 249 _ R w.heap.size 0 R [I c.C,I 32,I c.O,I 1,I 2,J c.key] _ rc XCC R qh ?_));refine(HC.out).mono ?_;rintro e w4 ⟨rfl,hh,r4⟩;have iE:=(Bt.alloc (.cells #[(mb,0),I c.C,I 32,I c.O,I 1,I 2,J c.key,I ar,I aj,I pc,I 0,I 0,I ai,I aq,J H,J T,J F',J K,J N,I au,I ay,I to,I aw,I fr,.bool false] 311)).rws r4 qj;have ld:=(Br.alloc (.cells #[(mb,0),I c.C,I 32,I c.O,I 1,I 2,J c.key,I ar,I aj,I pc,I 0,I 0,I ai,I aq,J H,J T,J F',J K,J N,I au,I ay,I to,I aw,I fr,.bool false] 311)).rws r4 qj;have hr4:=Fr.drop r4 hr0 hz;have py:=hr4.size;have l4:=hh.lt;clear Bc Bt Br hs hr0 r4 HC;obtain⟨bd,hbd⟩:=Xq σ'.bad;have kb:w4.cell? (w2.heap.size,24)=some (.bool bd):=hbd ▸ hh.cell 24;have HB:=XAA hbd;clear hbd;cases bd
 .have rs:w4.rangeAt w2.heap.size 7 [I σ'.t.ar,I σ'.t.aj,I σ'.t.pc,I σ'.t.az,I σ'.t.aB,I σ'.t.ai,I σ'.t.aq,J σ'.t.H,J σ'.t.T,J σ'.t.F,J σ'.t.K,J σ'.t.N,I σ'.t.au,I σ'.t.ay,I σ'.t.to,I σ'.t.aw,I σ'.t.fr]:=SW.uA hh;go_wp2_with (first|(refine wpList_load_mid R 210 _ R w2.heap.size 7 R [I σ'.t.ar,I σ'.t.aj,I σ'.t.pc,I σ'.t.az,I σ'.t.aB,I σ'.t.ai,I σ'.t.aq,J σ'.t.H,J σ'.t.T,J σ'.t.F,J σ'.t.K,J σ'.t.N,I σ'.t.au,I σ'.t.ay,I σ'.t.to,I σ'.t.aw,I σ'.t.fr] _ rs XAQ R qh ?_)|(refine aU R 210 _ _ R _ R R (ld) R qh qk ?_;intro w8 aC kb8;have kc8:=kb8.cell));have hd:=HD.out;have hb:=HB.out;have e1:eW ⟨ar,aj,pc,0,0,ai,aq,H,T,F',K,N,au,ay,to,aw,fr⟩ σ'=σ'.t:=XAD (by rw [hb];decide);refine XAI (v:=.tuple #[aH σ'.t,I 0]) (dc R _ _ qu qu (cn 210 kb8 XAQ R qh)) R ?_;exact Ij hd e1 hh.mw hh.ok hr4 aC qd qd qd
 .have dN:w4.cell? (w.heap.size+1,3)=I 0:=iE.cell 3;have Cn:=iE.frozen 3;have rs:(w4.setCell (w.heap.size+1,3) (I 3)).rangeAt (w.heap.size+1) 0 [I ar,I aj,I pc,I 3,I 0,I ai,I aq,J H,J T,J F',J K,J N,I au,I ay,I to,I aw,I fr]:=(iE.aJ 3 (I 3)).range;go_wp2_with (first|(refine wpList_load_mid R 210 _ R (w.heap.size+1) 0 R [I ar,I aj,I pc,I 3,I 0,I ai,I aq,J H,J T,J F',J K,J N,I au,I ay,I to,I aw,I fr] _ rs XAQ R qh ?_)|(refine aU R 210 _ _ R _ R R ((ld.far (p:=⟨w.heap.size+1,3,none⟩) qdr _)) R qh qk ?_;intro w8 aC kb8;have kc8:=kb8.cell));have hd:=HD.out;have hb:=HB.out;have e1:eW ⟨ar,aj,pc,0,0,ai,aq,H,T,F',K,N,au,ay,to,aw,fr⟩ σ'=⟨ar,aj,pc,3,0,ai,aq,H,T,F',K,N,au,ay,to,aw,fr⟩:=XAE hb;refine XAI (v:=.tuple #[aH ⟨ar,aj,pc,3,0,ai,aq,H,T,F',K,N,au,ay,to,aw,fr⟩,I 0]) (dc R _ _ qu qu (cn 210 kb8 XAQ R qh)) R ?_;have ht:=HT.out;have hm4:=hh.mw;exact Ij hd e1 (hm4.far qfk qfs _) ⟨ht.H,ht.T,ht.F,ht.K,ht.N⟩ (hr4.far qef _) aC qd qd qd
theorem Us(w:World)(hM:MW w mb g c ws n)(t:Tk)(h0:t.az=0)(h1:t.aB=0)(hp:t.pc≠0/\t.pc≠1/\t.pc≠2/\t.pc≠3/\t.pc≠10/\t.pc≠11/\t.pc≠12/\t.pc≠13):Z 154 #[(mb,0),dh c,aH t] w λe w'=>e=.returned (.tuple #[aH aO,I 292])/\Below w w w':=by
 have hl:=hM.lt;have hl2:=hM.jN;have hwd:((c.words:Int)==0)=false:=qbd
 have HM:=XAA hM;obtain⟨ar,aj,pc,az,aB,ai,aq,H,T,F,K,N,au,ay,to,aw,fr⟩:=t;dsimp only at h0 h1 hp;subst h0 h1;obtain⟨p0,p1,p2,p3,p4,p5,p6,p7⟩:=hp;have e:∀k:Int,pc≠k->(pc==k)=false:=λk h=>by simp [h]
 have HF:=XAA (show Instr.findNow (.int .i64) (I pc) oW 0=some none by simp [oW,Instr.findNow,Instr.sameNow,e _ p0,e _ p1,e _ p2,e _ p3,e _ p4,e _ p5,e _ p6,e _ p7]);clear p0 p1 p2 p3 p4 p5 p6 p7 e;clear hM;go_enter func154,ntmps154;go_wp2_with (first|(go_at_call 202;refine Xr (pJ _ (HM.out.below qa)) ?_)|(go_at_call 203;refine(eH HM.out.c _).mono ?_;rintro e w1 ⟨rfl,hb1⟩;have Bc:ak w1 w.heap.size 249 #[I c.C,I 32,I c.O,I 1,I 2,J c.key]:=(((ak.new w 249 _).alloc _).alloc _).below hb1;have Bt:ak w1 (w.heap.size+1) 210 #[I ar,I aj,I pc,I 0,I 0,I ai,I aq,J H,J T,J F,J K,J N,I au,I ay,I to,I aw,I fr]:=((ak.new2 w _ 210 _).alloc _).below hb1;have Br:ak w1 (w.heap.size+1+1) 210 #[I 0,I 0,I 0,I 0,I 0,I 0,I 0,J 0,J 0,J 0,J 0,J 0,I 0,I 0,I 0,I 0,I 0]:=(ak.g_ w _ _ 210 _).below hb1;have hbw:Below w w w1:=qa;clear hb1));have k1:w1.drew.cell? (w.heap.size+1,2)=I pc:=Bt.cell 2;go_region_held3 (λw'=>w'.cell? (w.heap.size+1,2)=I pc) (assumption) (first|(go_at_call 204;refine(Ik _).mono ?_;rintro e w2 ⟨rfl,hw2⟩;have Bm:w2.heap[w1.heap.size]? =some (.map oW.toArray 8):=hw2 ▸ vP _ _;have hb2:Below w1 w1 w2:=hw2 ▸ (XAC _ _).drew.alloc (XAB _) _;clear hw2;have k2:w2.cell? (w.heap.size+1,2)=I pc:=(Bt.below hb2).cell 2)|(rw [Kf pc false .nilFunc Bm ⟨none,HF.out,.inl ⟨R,R,R⟩⟩]));replace hbw:=hbw.trans (hb2.mono hbw.size);replace Br:=Br.below hb2;go_wp2_with (first|(refine aU R 210 _ _ R _ R R (Br) R qh qk ?_;intro w8 aC kb8;have kc8:=kb8.cell));refine XAI (v:=.tuple #[aH aO,I 292]) (dc R _ _ qu qu (cn 210 kb8 XAQ R qh)) R ?_;exact⟨R,aI hbw aC qd⟩
end
end Go.Proofs.YtedefgjfgdcfdaaGreatDoor
