/- Walks and laws for TopPages. -/
import Derived.Test.YtedefgjfgdcfdaaGreatDoorQ09
namespace Go.Proofs.YtedefgjfgdcfdaaGreatDoor
open Go.RowKit Go.Proofs.Tryz
set_option maxRecDepth 100000
set_option maxHeartbeats 4000000
structure Wk(E σ':St):Prop where
 aj:σ'.t.aj=E.t.aj
 fr:σ'.t.fr=E.t.fr
 aB:σ'.t.aB=E.t.aB
 n:σ'.n<=E.n+1
 pc:Nx σ'.t.pc
def jB(T:TypeId)(E:St)(w:World)(s mb g:Nat)(c:Ch)(e:Ending)(w':World):Prop:=
 e=.returned (.tuple #[])/\∃σ',SW T w' s mb g c σ'/\Fr s mb g w w'/\Wk E σ'
theorem eY(b:Bool)(n:Nat):n+one b<=n+1:=by
 cases b
 .exact XAU n
 .exact XAB _
theorem D3(E:St):(cY E).2.t=E.t/\(cY E).2.n=E.n:=zW E

section
variable{w:World}{s mb g:Nat}{c:Ch}{E:St}
theorem Im(w:World)(h:FsW w s mb g c E)(hn:E.n<=1000000)(hp:E.t.pc=0\/E.t.pc=10):Z 227 #[(s,0)] w λe w'=>
  e=.returned (.tuple #[])/\FsW w' s mb g c (nD c E)/\Fr s mb g w w':=by
 have hlt:=h.lt;have hh:=h.drew;have rr:=Rws.drew (Rws.refl [s,mb,g] w);have hw:IntKind.i64.wrap (E.t.pc+1)=E.t.pc+1:=XAM _ qd;clear h;go_enter func227,ntmps227;go_wp2_with fail;go_region_held3 (λw'=>bH w' s c (w'.cell? (s,8)=I E.t.aj)) (first|exact⟨hh.cell 1,hh.cell 2,hh.cell 3,hh.cell 4,hh.cell 5,hh.cell 6,hh.cell 8⟩|(have hq:=hh.pT hv;exact Xl)) (first|(go_at_call 280;refine(nj hh.c E.t.aj _).mono ?_;rintro e w1 ⟨rfl,hb1⟩;replace hh:=hh.below hb1;replace rr:=Fr.below rr hb1)|(go_at_call 279;refine Xr (fsBehind _ (dm c E.t.aj) qbe) ?_)|(go_at_call 278;refine(fsLoad _ hh hn (bh (dm c E.t.aj))).mono ?_;rintro e w3 ⟨rfl,h3,r3⟩;have hv:=fP hh (bh (dm c E.t.aj));replace hh:=h3;replace rr:=Rws.trans rr r3;have f3:=hh.frz 15;have g3:w3.cell? (s,15)=J E.t.T:=hh.cell 15));replace hh:=hh.pT hv;replace rr:=Fr.set rr 15 (J ((loadS (bh (dm c E.t.aj)) E).1:Int));generalize w3.setCell (s,15) (J ((loadS (bh (dm c E.t.aj)) E).1:Int))=W at hh rr ⊢;have k9:W.cell? (s,9)=I E.t.pc:=hh.cell 9;have f9:=hh.frz 9
 go_wp2_with (first|(go_at_call 281;refine(fsTo _ (E.t.pc+1) hh).mono ?_;rintro e w5 ⟨rfl,h5,r5⟩;replace hh:=h5;replace rr:=Rws.trans rr r5));go_end0;exact⟨R,hh,rr⟩
theorem Ih(w:World)(h:FsW w s mb g c E)(hn:E.n<=1000000):Z 282 #[(s,0)] w λe w'=>
  e=.returned (.tuple #[I (ny c E).1,I (ny c E).2.1])/\FsW w' s mb g c (ny c E).2.2/\Fr s mb g w w':=by
 have hlt:=h.lt;have hh:=h.drew;have rr:=Rws.drew (Rws.refl [s,mb,g] w);clear h;go_enter func282,ntmps282;go_wp2_with fail;go_region_held3 (λw'=>bH w' s c (w'.cell? (s,8)=I E.t.aj)) (first|exact⟨hh.cell 1,hh.cell 2,hh.cell 3,hh.cell 4,hh.cell 5,hh.cell 6,hh.cell 8⟩|(have hq:=hh.pH hv;exact Xl)) (first|(go_at_call 280;refine(nj hh.c E.t.aj _).mono ?_;rintro e w1 ⟨rfl,hb1⟩;replace hh:=hh.below hb1;replace rr:=Fr.below rr hb1)|(go_at_call 278;refine(fsLoad _ hh hn (dm c E.t.aj)).mono ?_;rintro e w3 ⟨rfl,h3,r3⟩;have hv:=fP hh (dm c E.t.aj);replace hh:=h3;replace rr:=Rws.trans rr r3;have f3:=hh.frz 14;have g3:w3.cell? (s,14)=J E.t.H:=hh.cell 14));replace hh:=hh.pH hv;replace rr:=Fr.set rr 14 (J ((loadS (dm c E.t.aj) E).1:Int));generalize w3.setCell (s,14) (J ((loadS (dm c E.t.aj) E).1:Int))=W at hh rr ⊢;obtain⟨a,b,q,hq⟩:∃a b q,jI ((loadS (dm c E.t.aj) E).1:Int)=(a,b,q):=⟨_,_,_,R⟩;have HQ:=XAA hq;clear hq;have k14:W.cell? (s,14)=J ((loadS (dm c E.t.aj) E).1:Int):=hh.cell 14;have f14:=hh.frz 14;have k2:W.cell? (s,2)=I 32:=hh.cell 2;have f2:=hh.frz 2;have k3:W.cell? (s,3)=I c.O:=hh.cell 3;have f3:=hh.frz 3
 cases q<;>by_cases h1:a<32<;>by_cases h2:b<c.O;all_goals go_wp2_with (first|(go_at_call 322;refine Xr (IY _ _ _ _ qd qv HQ.out _) ?_)|(go_at_call 287;refine(fsMustS _ (_) hh).mono ?_;rintro e w4 ⟨rfl,h4,r4⟩;replace hh:=h4;replace rr:=Rws.trans rr r4))
 all_goals go_ret2
 all_goals
  have hq:=HQ.out;refine⟨by simp [ny,hq],hh.eq (by simp only [ny,hq];exact DE (by simp<;>omega)),rr⟩
theorem Up(w:World)(h:FsW w s mb g c E)(hn:E.n<=1000000):Z 228 #[(s,0)] w λe w'=>
  e=.returned (.tuple #[])/\FsW w' s mb g c (nA c E)/\Fr s mb g w w':=by
 have hlt:=h.lt;have hh:=h;have rr:=Rws.refl [s,mb,g] w;obtain⟨a,b,σ1,hq⟩:∃a b σ1,ny c E=(a,b,σ1):=⟨_,_,_,R⟩;have HC:=Ih w h hn;rw [hq] at HC;dsimp only at HC;have HQ:=XAA hq;have xo:=XAA HC;clear h hq HC;rcases (by omega:a<0\/(0<=a/\b<0)\/(0<=a/\0<=b)) with h1|⟨h1,h2⟩|⟨h1,h2⟩
 all_goals
  go_enter func228,ntmps228;go_wp2_with (first|(go_at_call 282;refine(xo.out).mono ?_;rintro e w1 ⟨rfl,hx1,hx2⟩;replace hh:=hx1;replace rr:=hx2;have k12:w1.cell? (s,12)=I σ1.t.ai:=hh.cell 12;have f12:=hh.frz 12;have k13:w1.cell? (s,13)=I σ1.t.aq:=hh.cell 13;have f13:=hh.frz 13)|(go_at_call 281;refine(fsTo _ (_) ((hh.ss _).mP _)).mono ?_;rintro e w5 ⟨rfl,h5,r5⟩;replace hh:=h5;replace rr:=Rws.trans (Fr.set (Fr.set rr _ _) _ _) r5));go_end0;exact⟨R,hh.eq (by simp only [nA,HQ.out];(repeat' split)<;>(first|rfl|(exfalso;omega))),rr⟩
theorem Ur(w:World)(h:FsW w s mb g c E)(hn:E.n<=1000000):Z 229 #[(s,0)] w λe w'=>
  e=.returned (.tuple #[])/\FsW w' s mb g c (nB c E)/\Fr s mb g w w':=by
 have hlt:=h.lt;have hh:=h.drew;have rr:=Rws.drew (Rws.refl [s,mb,g] w);obtain⟨a,b,hq⟩:∃a b,jq (loadS (eK c E.t.ai E.t.aq) E).1 (gC c E.t.ai) E.t.aq=(a,b):=⟨_,_,R⟩;have HQ:=XAA hq;clear h hq;go_enter func229,ntmps229;go_wp2_with fail;go_region_held3 (λw'=>bH w' s c (w'.cell? (s,12)=I E.t.ai/\w'.cell? (s,13)=I E.t.aq)) (first|exact Xk) (first|(go_at_call 147;refine(iM hh.c E.t.ai E.t.aq _).mono ?_;rintro e w1 ⟨rfl,hb1⟩;replace hh:=hh.below hb1;replace rr:=Fr.below rr hb1)|(go_at_call 278;refine(fsLoad _ hh hn (eK c E.t.ai E.t.aq)).mono ?_;rintro e w3 ⟨rfl,h3,r3⟩;have hv:=fP hh (eK c E.t.ai E.t.aq);replace hh:=h3;replace rr:=Rws.trans rr r3));go_wp2_with fail;have rn:=HQ;generalize (loadS (eK c E.t.ai E.t.aq) E).1=v at HQ hv ⊢;have k1:w3.cell? (s,1)=I c.C:=hh.cell 1;have f1:=hh.frz 1;have k2:w3.cell? (s,2)=I 32:=hh.cell 2;have f2:=hh.frz 2;have k3:w3.cell? (s,3)=I c.O:=hh.cell 3;have f3:=hh.frz 3;have k4:w3.cell? (s,4)=I 1:=hh.cell 4;have f4:=hh.frz 4;have k5:w3.cell? (s,5)=I 2:=hh.cell 5;have f5:=hh.frz 5;have k6:w3.cell? (s,6)=J c.key:=hh.cell 6;have f6:=hh.frz 6;have k12:w3.cell? (s,12)=I E.t.ai:=hh.cell 12;have f12:=hh.frz 12;have k13:w3.cell? (s,13)=I E.t.aq:=hh.cell 13;have f13:=hh.frz 13
 have hl3:=hh.lt;have HK:=wg c E.t.ai;(refine ba (w3.heap.size) (λhxc aA hxh hxn=>?_);(repeat (go_big_quiet_step (first|(go_at_call 284;exact dy (vk E.t.ai _))|(go_at_call 283;exact dy ((D2 v (gC c E.t.ai) hv HK E.t.aq a _ HQ.out _).mono λ_ _ ⟨e1,e2⟩=>⟨e1,e2 ▸ XAC _ _⟩)))));refine XAG ?_;clear hxc aA hxh hxn;intro w1 hb1 hz1 hc1 hf1);replace hh:=hh.below hb1;replace rr:=Fr.below rr hb1;clear hc1 hf1;have k3:w1.cell? (s,3)=I c.O:=hh.cell 3;have f3:=hh.frz 3;have k19:w1.cell? (s,19)=I E.t.au:=hh.cell 19;have f19:=hh.frz 19
 cases b<;>by_cases h1:(c.O:Int)<=a;all_goals go_wp2_with (first|(go_at_call 281;(with_reducible refine(fsTo _ (_) hh).mono ?_);rintro e w5 ⟨rfl,h5,r5⟩;replace hh:=h5;replace rr:=Rws.trans rr r5)|(go_at_call 281;(with_reducible refine(fsTo _ (_) (hh.ur _)).mono ?_);rintro e w5 ⟨rfl,h5,r5⟩;replace hh:=h5;replace rr:=Rws.trans (Fr.set rr _ _) r5))
 all_goals refine Xe ?_
 all_goals
  have hq:=rn.out;exact⟨R,hh.eq (by simp only [nB,hq];((repeat' split)<;>(first|rfl|(exfalso;omega)|(exfalso;simp_all;done)|(exfalso;simp_all;omega)))),rr⟩
theorem Il(w:World)(h:FsW w s mb g c E)(hn:E.n<=1000000)(aq again:Int):Z 285 #[(s,0),I aq,I again] w λe w'=>
  e=.returned (.tuple #[])/\FsW w' s mb g c (iO c aq again E)/\Fr s mb g w w':=by
 have hlt:=h.lt;have hh:=h;have rr:=Rws.refl [s,mb,g] w;obtain⟨v,er,hq⟩:∃v er,gR E.t.ai aq=(v,er):=⟨_,_,R⟩;have hv0:=IX E.t.ai aq;rw [hq] at hv0;dsimp only at hv0;obtain⟨x,rfl⟩:=XAb hv0.1;have hx:x<U64:=qv
 have HQ:=XAA hq;clear h hq hv0;obtain⟨bd,hbd⟩:=Xq ((E.bad|| !(er==0)));have hw:IntKind.u64.wrap ((E.t.T:Int)+1)=((inc E.t.T:Nat):Int):=wrap_add E.t.T 1;have hi:inc E.t.T<U64:=XAj _ qf;have HB:=XAA hbd;clear hbd;have k12:w.cell? (s,12)=I E.t.ai:=hh.cell 12;have f12:=hh.frz 12
 cases bd
 .go_enter func285,ntmps285;go_wp2_with (first|(go_at_call 305;refine Xr (vO E.t.ai aq _ _ HQ.out _) ?_)|(go_at_call 287;refine(fsMustS _ _ hh).mono ?_;rintro e w4 ⟨rfl,h4,r4⟩;replace hh:=h4;replace rr:=r4;have k24:w4.cell? (s,24)=some (.bool false):=qcf));replace hh:=hh.drew;replace rr:=Rws.drew rr;have hn1:(must (er==0) E).n<=1000000:=hn;go_region_held3 (λw'=>bH w' s c (w'.cell? (s,8)=I E.t.aj/\w'.cell? (s,14)=J E.t.H/\w'.cell? (s,15)=J E.t.T)) (first|exact Xk) (first|(go_at_call 280;refine(nj hh.c E.t.aj _).mono ?_;rintro e w1 ⟨rfl,hb1⟩;replace hh:=hh.below hb1;replace rr:=Fr.below rr hb1)|(go_at_call 337;(refine(fsCas2 _ hh hn1 (dm c E.t.aj) E.t.H E.t.T x (inc E.t.T) hx hi).mono ?_);rintro e w6 ⟨rfl,h6,r6⟩;replace hh:=h6;replace rr:=Rws.trans rr r6));obtain⟨q,σ2,hc2⟩:∃q σ2,cas2S (dm c E.t.aj) E.t.H E.t.T x (inc E.t.T) (must (er==0) E)=(q,σ2):=⟨_,_,R⟩;have HC:=XAA hc2;rw [hc2] at hh ⊢;clear hc2;dsimp only at hh;have k10:w6.cell? (s,10)=I σ2.t.az:=hh.cell 10;have f10:=hh.frz 10
  cases q;all_goals go_wp2_with (first|(go_at_call 281;refine(fsTo _ (again) hh).mono ?_;rintro e w5 ⟨rfl,h5,r5⟩;replace hh:=h5;replace rr:=Rws.trans rr r5))
  all_goals refine Xe ?_
  all_goals
   have hq:=HQ.out;have hb:(must (er==0) E).bad=false:=HB.out;have hc:=HC.out;first
   |exact⟨R,hh.eq qby,rr⟩
   |exact⟨R,(hh.nX 1).eq qby,Fr.set rr _ _⟩
 .go_enter func285,ntmps285;go_wp2_with (first|(go_at_call 305;refine Xr (vO E.t.ai aq _ _ HQ.out _) ?_)|(go_at_call 287;refine(fsMustS _ _ hh).mono ?_;rintro e w4 ⟨rfl,h4,r4⟩;replace hh:=h4;replace rr:=r4;have k24:w4.cell? (s,24)=some (.bool true):=qcf));refine Xe ?_;have hq:=HQ.out;have hb:(must (er==0) E).bad=true:=HB.out;exact⟨R,hh.eq (by simp only [iO,hq,hb];((repeat' split)<;>(first|rfl|(exfalso;omega)|(exfalso;simp_all;done)|(exfalso;simp_all;omega)))),rr⟩
theorem Uu(w:World)(h:FsW w s mb g c E)(hn:E.n<=1000000):Z 230 #[(s,0)] w λe w'=>
  e=.returned (.tuple #[])/\FsW w' s mb g c (iO c E.t.au 0 E)/\Fr s mb g w w':=by
 have hh:=h;have k19:w.cell? (s,19)=I E.t.au:=hh.cell 19;have f19:=hh.frz 19
 have hlt:=h.lt;go_enter func230,ntmps230;go_wp2_with (first|(go_at_call 285;refine(Il _ hh hn E.t.au 0).mono ?_;rintro e w1 ⟨rfl,hx1,hx2⟩));refine Xe ?_;exact⟨R,hx1,hx2⟩
theorem Uo(w:World)(h:FsW w s mb g c E)(hn:E.n<=1000000):Z 233 #[(s,0)] w λe w'=>
  e=.returned (.tuple #[])/\FsW w' s mb g c (iO c E.t.aq 10 E)/\Fr s mb g w w':=by
 have hh:=h;have k13:w.cell? (s,13)=I E.t.aq:=hh.cell 13;have f13:=hh.frz 13
 have hlt:=h.lt;go_enter func233,ntmps233;go_wp2_with (first|(go_at_call 285;refine(Il _ hh hn E.t.aq 10).mono ?_;rintro e w1 ⟨rfl,hx1,hx2⟩));refine Xe ?_;exact⟨R,hx1,hx2⟩
theorem Uq(w:World)(h:FsW w s mb g c E)(hn:E.n<=1000000):Z 231 #[(s,0)] w λe w'=>
  e=.returned (.tuple #[])/\FsW w' s mb g c (mB c E)/\Fr s mb g w w':=by
 have hlt:=h.lt;have hh:=h;have rr:=Rws.refl [s,mb,g] w;obtain⟨a,b,σ1,hq⟩:∃a b σ1,ny c E=(a,b,σ1):=⟨_,_,_,R⟩;have HC:=Ih w h hn;rw [hq] at HC;dsimp only at HC;have HQ:=XAA hq;have xo:=XAA HC;clear h hq HC;by_cases hd:a=σ1.t.ai
 .have hb:(a !=σ1.t.ai)=false:=by simp [hd]
  go_enter func231,ntmps231;go_wp2_with (first|(go_at_call 282;refine(xo.out).mono ?_;rintro e w1 ⟨rfl,hx1,hx2⟩;replace hh:=hx1;replace rr:=hx2;have k12:w1.cell? (s,12)=I σ1.t.ai:=hh.cell 12;have f12:=hh.frz 12;have k19:w1.cell? (s,19)=I σ1.t.au:=hh.cell 19;have f19:=hh.frz 19)|(go_at_call 281;refine(fsTo _ (_) (hh.ur _)).mono ?_;rintro e w5 ⟨rfl,h5,r5⟩;replace hh:=h5;replace rr:=Rws.trans (Fr.set rr _ _) r5));refine Xe ?_;exact⟨R,hh.eq (by simp only [mB,HQ.out];rw [XAE hd]),rr⟩
 .have hb:(a !=σ1.t.ai)=true:=by simp [hd]
  go_enter func231,ntmps231;go_wp2_with (first|(go_at_call 282;refine(xo.out).mono ?_;rintro e w1 ⟨rfl,hx1,hx2⟩;replace hh:=hx1;replace rr:=hx2;have k12:w1.cell? (s,12)=I σ1.t.ai:=hh.cell 12;have f12:=hh.frz 12;have k19:w1.cell? (s,19)=I σ1.t.au:=hh.cell 19;have f19:=hh.frz 19)|(go_at_call 281;refine(fsTo _ (_) hh).mono ?_;rintro e w5 ⟨rfl,h5,r5⟩;replace hh:=h5;replace rr:=Rws.trans rr r5));refine Xe ?_;exact⟨R,hh.eq (by simp only [mB,HQ.out];rw [XAD hd]),rr⟩
theorem Uv(w:World)(h:FsW w s mb g c E)(hn:E.n<=1000000):Z 232 #[(s,0)] w λe w'=>
  e=.returned (.tuple #[])/\FsW w' s mb g c (nC c E)/\Fr s mb g w w':=by
 have hlt:=h.lt;have hh:=h;have rr:=Rws.refl [s,mb,g] w;have HK:=wg c E.t.ai;obtain⟨v,er,hq⟩:∃v er,gT E.t.au (gC c E.t.ai) E.t.aq=(v,er):=⟨_,_,R⟩;have hv0:=CP E.t.au (gC c E.t.ai) E.t.aq;rw [hq] at hv0;dsimp only at hv0;obtain⟨x,rfl⟩:=XAb hv0.1;have hx:x<U64:=qv
 have HQ:=XAA hq;obtain⟨bd,hbd⟩:=Xq ((E.bad|| !(er==0)));have HB:=XAA hbd;clear hbd h hq hv0;have k1:w.cell? (s,1)=I c.C:=hh.cell 1;have f1:=hh.frz 1;have k2:w.cell? (s,2)=I 32:=hh.cell 2;have f2:=hh.frz 2;have k3:w.cell? (s,3)=I c.O:=hh.cell 3;have f3:=hh.frz 3;have k4:w.cell? (s,4)=I 1:=hh.cell 4;have f4:=hh.frz 4;have k5:w.cell? (s,5)=I 2:=hh.cell 5;have f5:=hh.frz 5;have k6:w.cell? (s,6)=J c.key:=hh.cell 6;have f6:=hh.frz 6;have k12:w.cell? (s,12)=I E.t.ai:=hh.cell 12;have f12:=hh.frz 12;have k13:w.cell? (s,13)=I E.t.aq:=hh.cell 13;have f13:=hh.frz 13;have k19:w.cell? (s,19)=I E.t.au:=hh.cell 19;have f19:=hh.frz 19
 go_enter func232,ntmps232;go_wp2_with fail;(refine ba (w.heap.size) (λhxc aA hxh hxn=>?_);(repeat (go_big_quiet_step (first|(go_at_call 284;exact dy (vk E.t.ai _))|(go_at_call 286;exact dy ((CQ E.t.au (gC c E.t.ai) HK E.t.aq x er HQ.out _).mono λ_ _ ⟨e1,e2⟩=>⟨e1,e2 ▸ XAC _ _⟩)))));refine XAG ?_;clear hxc aA hxh hxn;intro w1 hb1 hz1 hc1 hf1);replace hh:=hh.below hb1;replace rr:=Fr.below rr hb1;clear hc1 hf1;have hn1:(must (er==0) E).n<=1000000:=hn;cases bd
 .go_wp2_with (first|(go_at_call 287;refine(fsMustS _ _ hh).mono ?_;rintro e w4 ⟨rfl,h4,r4⟩;replace hh:=h4;replace rr:=Rws.trans rr r4;have k24:w4.cell? (s,24)=some (.bool false):=qcf));replace hh:=hh.drew;replace rr:=Rws.drew rr;go_region_held3 (λw'=>bH w' s c (w'.cell? (s,12)=I E.t.ai/\w'.cell? (s,13)=I E.t.aq)) (first|exact Xk) (first|(go_at_call 147;refine(iM hh.c E.t.ai E.t.aq _).mono ?_;rintro e w1 ⟨rfl,hb1⟩;replace hh:=hh.below hb1;replace rr:=Fr.below rr hb1)|(go_at_call 288;(refine(fsStore _ hh hn1 (eK c E.t.ai E.t.aq) x hx).mono ?_);rintro e w7 ⟨rfl,h7,r7⟩;replace hh:=h7;replace rr:=Rws.trans rr r7));go_wp2_with (first|(go_at_call 281;refine(fsTo _ (13) hh).mono ?_;rintro e w5 ⟨rfl,h5,r5⟩;replace hh:=h5;replace rr:=Rws.trans rr r5));refine Xe ?_;have hq:=HQ.out;have hb:(must (er==0) E).bad=false:=HB.out;exact⟨R,hh.eq qcc,rr⟩
 .go_wp2_with (first|(go_at_call 287;refine(fsMustS _ _ hh).mono ?_;rintro e w4 ⟨rfl,h4,r4⟩;replace hh:=h4;replace rr:=Rws.trans rr r4;have k24:w4.cell? (s,24)=some (.bool true):=qcf)|(go_at_call 281;refine(fsTo _ (13) hh).mono ?_;rintro e w5 ⟨rfl,h5,r5⟩;replace hh:=h5;replace rr:=Rws.trans rr r5));refine Xe ?_;have hq:=HQ.out;have hb:(must (er==0) E).bad=true:=HB.out;exact⟨R,hh.eq qcc,rr⟩
end
def oW:List MapEntry:= [⟨I 0,.func (.func 227) #[] #[],0⟩,⟨I 1,.func (.func 228) #[] #[],1⟩,⟨I 2,.func (.func 229) #[] #[],2⟩,⟨I 3,.func (.func 230) #[] #[],3⟩,⟨I 10,.func (.func 227) #[] #[],4⟩,⟨I 11,.func (.func 231) #[] #[],5⟩,⟨I 12,.func (.func 232) #[] #[],6⟩,⟨I 13,.func (.func 233) #[] #[],7⟩]
theorem Ik(w:World):Z 204 #[] w λe w'=>
  e=.returned (.map (some w.heap.size))/\w'=w.alloc (.map oW.toArray 8):=by
 have hmm:= @XCb prog;have h1:=kW (P:=prog) 307 3 305 .i64 XBo XAW w [] 0 0 (.func (.func 227) #[] #[]) rfl;have h2:=kW (P:=prog) 307 3 305 .i64 XBo XAW w [⟨I 0,.func (.func 227) #[] #[],0⟩] 1 1 (.func (.func 228) #[] #[]) rfl;have h3:=kW (P:=prog) 307 3 305 .i64 XBo XAW w [⟨I 0,.func (.func 227) #[] #[],0⟩,⟨I 1,.func (.func 228) #[] #[],1⟩] 2 2 (.func (.func 229) #[] #[]) rfl;have h4:=kW (P:=prog) 307 3 305 .i64 XBo XAW w [⟨I 0,.func (.func 227) #[] #[],0⟩,⟨I 1,.func (.func 228) #[] #[],1⟩,⟨I 2,.func (.func 229) #[] #[],2⟩] 3 3 (.func (.func 230) #[] #[]) rfl;have h5:=kW (P:=prog) 307 3 305 .i64 XBo XAW w [⟨I 0,.func (.func 227) #[] #[],0⟩,⟨I 1,.func (.func 228) #[] #[],1⟩,⟨I 2,.func (.func 229) #[] #[],2⟩,⟨I 3,.func (.func 230) #[] #[],3⟩] 4 10 (.func (.func 227) #[] #[]) rfl;have h6:=kW (P:=prog) 307 3 305 .i64 XBo XAW w [⟨I 0,.func (.func 227) #[] #[],0⟩,⟨I 1,.func (.func 228) #[] #[],1⟩,⟨I 2,.func (.func 229) #[] #[],2⟩,⟨I 3,.func (.func 230) #[] #[],3⟩,⟨I 10,.func (.func 227) #[] #[],4⟩] 5 11 (.func (.func 231) #[] #[]) rfl;have h7:=kW (P:=prog) 307 3 305 .i64 XBo XAW w [⟨I 0,.func (.func 227) #[] #[],0⟩,⟨I 1,.func (.func 228) #[] #[],1⟩,⟨I 2,.func (.func 229) #[] #[],2⟩,⟨I 3,.func (.func 230) #[] #[],3⟩,⟨I 10,.func (.func 227) #[] #[],4⟩,⟨I 11,.func (.func 231) #[] #[],5⟩] 6 12 (.func (.func 232) #[] #[]) rfl;have h8:=kW (P:=prog) 307 3 305 .i64 XBo XAW w [⟨I 0,.func (.func 227) #[] #[],0⟩,⟨I 1,.func (.func 228) #[] #[],1⟩,⟨I 2,.func (.func 229) #[] #[],2⟩,⟨I 3,.func (.func 230) #[] #[],3⟩,⟨I 10,.func (.func 227) #[] #[],4⟩,⟨I 11,.func (.func 231) #[] #[],5⟩,⟨I 12,.func (.func 232) #[] #[],6⟩] 7 13 (.func (.func 233) #[] #[]) rfl;simp only [XAx,XA_,XAV] at h1 h2 h3 h4 h5 h6 h7 h8;go_enter func204,ntmps204;go_wp2;go_ret;exact⟨R,R⟩
theorem ab4(w:World):(zeroValue 305).run prog w=.ok .nilFunc w:=qh
theorem Kf{w:World}{r:Nat}(n:Int)(b:Bool)(v:Value)(hb:w.heap[r]? =some (.map oW.toArray 8))(hf:∃a,Instr.findNow (.int .i64) (I n) oW 0=some a/\((b=false/\v=.nilFunc/\a=none)\/(b=true/\∃i,a=some (i,v)))):
  (Instr.lookup 307 (.map (some r)) (I n) true).run prog w=.ok (.tuple #[v,.bool b]) w:=
 aak 307 3 305 .i64 XBo XAW ab4 hb n b v hf
section
variable{w:World}{mb g:Nat}{c:Ch}{ws:List Nat}{n:Nat}
theorem pJ(w:World)(hM:MW w mb g c ws n):Z 202 #[(mb,0)] w λe w'=>e=.returned (I c.words)/\w'=w:=by
 have c0:w.cell? (mb,0)=some (.slice (g,0) c.words c.words):=by rw [<-hM.len];exact hM.mem.head.cell 0
 have hlt:=hM.lt;clear hM;go_enter func202,ntmps202;go_wp2;go_ret;exact⟨R,R⟩
abbrev ado:=dU
def yB(t:Tk)(mb g:Nat)(c:Ch)(ws:List Nat)(n:Nat)(w:World)(e:Ending)(w':World):Prop:=
 e=.returned (.tuple #[aH (eW t (dU c t.pc ⟨t,false,ws,n⟩)),I 0])/\MW w' mb g c (dU c t.pc ⟨t,false,ws,n⟩).ws (dU c t.pc ⟨t,false,ws,n⟩).n/\(eW t (dU c t.pc ⟨t,false,ws,n⟩)).Ok/\Rws [mb,g] w w'
theorem MW.far{w:World}(h:MW w mb g c ws n){p:Addr}(h1:mb≠p.block)(h2:g≠p.block)(v:Value):MW (w.setCell p v) mb g c ws n:=⟨h.mem.far h1 h2 v,h.len,h.u,h.c⟩
theorem Rws.far{gs:List Nat}{a w:World}(h:Rws gs a w){p:Addr}(hp:a.heap.size<=p.block)(u:Value):Rws gs a (w.setCell p u):=
 ⟨h.os,h.tape,h.output,qbj,λk hk h1=>(XAN w p u k qd).trans (h.block k hk h1)⟩
theorem Ij{t:Tk}{E:St}{x:Tk}{w4 w8:World}{r:Nat}(hd:dU c t.pc ⟨t,false,ws,n⟩=E)(hx:eW t E=x)(hM:MW w4 mb g c E.ws E.n)(ht:x.Ok)(hr:Rws [mb,g] w w4)(ho:Only r w4 w8)(h1:w.heap.size<=r)(h2:mb≠r)(h3:g≠r):
  yB t mb g c ws n w (.returned (.tuple #[aH x,I 0])) w8:=by
 unfold yB;rw [hd,hx];refine⟨R,⟨⟨(ho.block _ h2).trans hM.mem.head,(ho.block _ h3).trans hM.mem.row,hM.mem.ne⟩,hM.len,hM.u,hM.c⟩,ht,?_⟩;exact⟨ho.os.trans hr.os,ho.tape.trans hr.tape,ho.output.trans hr.output,XAL hr.size (XAs ho.size.symm),λk hk h=>(ho.block k qd).trans (hr.block k hk h)⟩
end
theorem JD:(prog.info? 208).map (λi=>(i.zero,i.size,i.bytes))=some (some (J 0),1,8):=qh
theorem Y1(n:Nat)(h2:n<=4096)(w:World):(Instr.makeSlice 297 (I n) (I n)).run prog w=
  .ok (.slice (w.heap.size,0) n n) (w.alloc (.cells (kY (List.replicate n 0)).toArray 208)):=by
 obtain⟨i0,hi,hz0,hz1,hz2⟩:=XA4 JD;have:=run_make (P:=prog) w 297 208 i0 (J 0) XEJ hi hz0 .i64 .i64 n n qd qd (by rw [hz2];omega) qd;rw [this,hz1,XBQ,Nat.mul_one];have e:madeCells (J 0).cells n=(kY (List.replicate n 0)).toArray:=by apply Array.ext';rw [show(J 0).cells=#[J 0] from R,toList_madeCells_one];simp
 rw [e]
theorem Y7(n:Nat)(h1:1<=n)(h2:n<=4096)(w:World):Z 212 #[I n] w λe w'=>
  ∃b g,e=.returned (.tuple #[(b,0),I 0])/\bc 340 w' b g (List.replicate n 0) 0/\w.heap.size<=b/\w.heap.size<=g/\Below w w w':=by
 have hmk:=Y1 n h2;generalize hws:(kY (List.replicate n 0)).toArray=arr at hmk;have HW:=XAA hws;clear hws;have j1:(1:Int)<=n:=qd
 have j2:(n:Int)<=4096:=qd;go_enter func212,ntmps212;go_wp2
 go_ret2
 refine⟨w.heap.size+1,w.heap.size,R,⟨?_,?_,qd⟩,qd,XAB _,qa⟩
 .rw [XCD];have k:=ak.new (w.alloc (.cells arr 208)) 340 #[.slice (w.heap.size,0) n n,I ((0:Nat):Int)];rw [XAT] at k;exact k
 .rw [HW.out];exact(ak.new w 208 arr).alloc _
theorem bc.words{T:TypeId}{w:World}{b g:Nat}{ws:List Nat}{cnt:Nat}(h:bc T w b g ws cnt):Row w (some ⟨g,0,none⟩) (kY ws):=λ_=>
 ⟨g,0,R,h.row.lt,λj u hu=>by rw [XAV,h.row.cell,List.getElem?_toArray];exact hu⟩
theorem Y9{B:Nat}{a w w':World}{row:Option Nat}(h:Below B a w)(hg:w.grownBy w' row)(hB:B<=w.heap.size)(hr:∀g,row=some g->B<=g):Below B a w':=
 h.trans ⟨hg.os,hg.tape,hg.output,hg.size,λk hk=>hg.block k qd (λe=>qjs)⟩
theorem abg(ws:List Nat):∀u∈kY ws,u.oneCell'=true:=λu hu=>by obtain⟨x,-,rfl⟩:=XBR.1 hu;rfl
theorem RT(ws:List Nat)(b c n:Nat)(w:World)(hn:Hid (ws.length=n))(hn':n<=4096)(hA:Row w (some ⟨b,0,none⟩) (kY ws)):
  Z 224 #[.slice (b,0) n c] w λe w'=>∃v,e=.returned v/\w'.ownsRow w.heap.size 208 1 v n (kY ws)/\Below w w w':=by
 obtain⟨i0,hi,hz0,hz1,hz2⟩:=XA4 JD;have I0:=XAA hi;have I1:=XAA hz0;have I2:=XAA hz1;have I3:=XAA hz2;have HR:=XAA (hA.reads (n:=n) (by simpa using hn.out));have hsn:∀(n c:Nat)(w:World),(binOp .eql 297 (.slice (b,0) n c) (.slice none 0 0)).run prog w=.ok (.bool false) w:=λn c w=>XEI w 297 208 (some ⟨b,0,none⟩) n c 0 0 qu;clear hi hz0 hz1 hz2;go_enter func224,ntmps224;go_wp2_with (first|(at_builtin;refine uE _ rfl _ _ 297 rfl w.heap.size 208 i0 (J 0) 1 8 XEJ I0.out I1.out I2.out I3.out rfl qf (.slice (w.heap.size,0) 0 0) 0 [] rfl (XEP w #[] 0 (XAB _) (XAJ _) rfl) w.heap.size _ n _ (kY ws) rfl (HR.out.alloc (XAB _) _) (abg ws) qw qd ql ?_;intro v1 w1 ho1 hg1 hq1;clear hq1;simp only [XAV,XAx] at ho1));go_ret;exact⟨_,rfl,ho1,Y9 ((XAC w.heap.size w).alloc (XAB _) _) hg1 ql (λg hg=>by simp [Value.ownBlock] at hg;omega)⟩
theorem Y8(w:World)(b g:Nat)(ws:List Nat)(cnt n:Nat)(hM:bc 340 w b g ws cnt)(hn:Hid (ws.length=n))(hn':n<=4096):
  Z 197 #[(b,0)] w λe w'=>∃v,e=.returned v/\w'.ownsRow w.heap.size 208 1 v n (kY ws)/\Below w w w':=by
 have hH:=hM.head;rw [hn.out] at hH;have cb:=hH.cell;have HW:=XAA hM.words;go_enter func197,ntmps197;go_wp2_with (first|(go_at_call 224;refine(RT ws g n n _ hn hn' HW.out).mono ?_;rintro e w1 ⟨v1,rfl,ho1,hb1⟩));go_ret;exact⟨_,R,ho1,hb1⟩
end Go.Proofs.YtedefgjfgdcfdaaGreatDoor
