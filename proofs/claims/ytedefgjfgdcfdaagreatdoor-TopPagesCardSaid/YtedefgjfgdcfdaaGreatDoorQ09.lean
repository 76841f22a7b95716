/- Walks and laws for TopPages. -/
import Derived.Test.YtedefgjfgdcfdaaGreatDoorQ08
namespace Go.Proofs.YtedefgjfgdcfdaaGreatDoor
open Go.RowKit Go.Proofs.Tryz
set_option maxRecDepth 100000
set_option maxHeartbeats 4000000
def il:Array Value:=((List.range 50).map λi=>I (if i=21 then 22 else if i=37 then 38 else if i=30 then 31 else if i=40 then 41 else if i=41 then 42 else if i=46 then 47 else if i=47 then 48 else if i=48 then 49 else if i=49 then 40 else if i=36 then 43 else 0)).toArray
def iD(w:World):Prop:=∃t,ak w 0 t il
theorem iD.below{w w':World}(h:iD w)(hb:Below w w w'):iD w':=h.imp λ_ h=>h.below hb
theorem iD.alloc{w:World}(h:iD w)(o:Obj):iD (w.alloc o):=h.imp λ_ h=>h.alloc o
theorem iD.lt{w:World}(h:iD w):0<w.heap.size:=by obtain⟨t,h⟩:=h;exact h.lt
theorem iD.cell{w:World}(h:iD w)(i:Nat):w.cell? (0,i)=il[i]? :=by obtain⟨t,h⟩:=h;exact h.cell i
theorem iD.rws{w w':World}{gs:List Nat}(h:iD w)(r:Rws gs w w')(hn:0∉gs):iD w':=h.imp λ_ h=>h.rws r hn
structure fD(w:World)(s mb g:Nat):Prop where
 blk:iD w
 s:0≠s
 mb:0≠mb
 g:0≠g
section
variable{w w':World}{s mb g:Nat}{c:Ch}{E:St}
theorem fD.fr(h:fD w s mb g)(r:Fr s mb g w w'):fD w' s mb g:=⟨h.blk.rws r (by simp [h.s,h.mb,h.g]),h.s,h.mb,h.g⟩
theorem vq(b:Bool)(x y:Int)(E:St):E.sPc (bif b then x else y)=either b x y E:=by cases b<;>rfl
theorem mE(w:World)(b:Bool)(x y:Int)(h:FlW w s mb g c E):Z 289 #[(s,0),.bool b,I x,I y] w λe w'=>
  e=.returned (.tuple #[])/\FlW w' s mb g c (E.sPc (bif b then x else y))/\Fr s mb g w w':=by
 have hh:=h;have rr:=Rws.refl [s,mb,g] w;have hlt:=h.lt;clear h;cases b;all_goals
  go_enter func289,ntmps289;go_wp2_with (first|(go_at_call 296;refine(flTo _ (_) hh).mono ?_;rintro e w5 ⟨rfl,h5,r5⟩;replace hh:=h5;replace rr:=Rws.trans rr r5));refine Xe ?_;exact⟨R,hh,rr⟩
theorem mF(w:World)(p:Int)(h:FlW w s mb g c E)(hg:fD w s mb g)(hp:E.t.pc=p)(hl:p=21\/p=37\/p=30\/p=40\/p=41\/p=46\/p=47\/p=48\/p=49\/p=36):Z 293 #[(s,0)] w λe w'=>
  e=.returned (.tuple #[])/\FlW w' s mb g c (E.sPc (eL p))/\Fr s mb g w w':=by
 have hh:=h;have rr:=Rws.refl [s,mb,g] w;have hlt:=h.lt;have k9:w.cell? (s,9)=I p:=hp ▸ h.cell 9;have g0:=hg.blk.lt;have q21:w.cell? (0,21)=I 22:=hg.blk.cell 21;have q37:w.cell? (0,37)=I 38:=hg.blk.cell 37;have q30:w.cell? (0,30)=I 31:=hg.blk.cell 30;have q40:w.cell? (0,40)=I 41:=hg.blk.cell 40;have q41:w.cell? (0,41)=I 42:=hg.blk.cell 41;have q46:w.cell? (0,46)=I 47:=hg.blk.cell 46;have q47:w.cell? (0,47)=I 48:=hg.blk.cell 47;have q48:w.cell? (0,48)=I 49:=hg.blk.cell 48;have q49:w.cell? (0,49)=I 40:=hg.blk.cell 49;have q36:w.cell? (0,36)=I 43:=hg.blk.cell 36;clear h hg hp;rcases hl with rfl|rfl|rfl|rfl|rfl|rfl|rfl|rfl|rfl|rfl
 all_goals
  go_enter func293,ntmps293;go_wp2_with (first|(go_at_call 296;refine(flTo _ (_) hh).mono ?_;rintro e w5 ⟨rfl,h5,r5⟩;replace hh:=h5;replace rr:=Rws.trans rr r5));refine Xe ?_;exact⟨R,hh,rr⟩
theorem Kn(E:St):must true E=E:=by
 show { E with bad:=E.bad||false } =E;rw [Bool.or_false]
theorem SW.len_eq{T:TypeId}(h:SW T w s mb g c E):(E.ws.length:Int)=4*c.C+4+128+32*c.O:=by
 rw [h.len];unfold Ch.words;omega
theorem Dz{T:TypeId}(h:SW T w s mb g c E):inB (iu c) 1 E=true:=XAR (by have:=h.len_eq;unfold iu;omega)
theorem CR{T:TypeId}(h:SW T w s mb g c E):inB (lI c) 1 E=true:=XAR (by have:=h.len_eq;unfold lI;omega)
theorem Jw{T:TypeId}(h:SW T w s mb g c E){a:Int}(hi:inB a 1 E=true):∃i:Nat,a=i/\i<c.words/\E.ws[i]? =some (wd a E):=by
 have h1:=XBY hi;obtain⟨i,rfl⟩:=XAb h1.1;have hl:i<E.ws.length:=by have:=h1.2;omega
 refine⟨i,R,by rw [<-h.len];exact hl,?_⟩;unfold wd;rw [XAO hl,XBA,XBQ,XAO hl];rfl
theorem DB{T:TypeId}(w:World)(h:SW T w s mb g c E)(hn:E.n<=1000000)(a:Int)(o v:Nat)(hv:v<U64)(hi:inB a 1 E=true):Z 301 #[(mb,0),I a,J o,J v] w λe w'=>
  e=.returned (.tuple #[.bool (rI a o v E).1,I 0])/\SW T w' s mb g c (rI a o v E).2/\Fr s mb g w w':=by
 obtain⟨i,rfl,hi2,hx⟩:=Jw h hi;have hl:=h.c.words_le;by_cases hq:wd (i:Int) E=o
 .have e:rI (i:Int) o v E=(true,{ E with bad:=E.bad||false,ws:=E.ws.set i v,n:=E.n+1 }):=by unfold rI yN;rw [hi,XAR hq];rfl
  rw [e];refine(RF _ mb g E.ws E.n c.words h.mem (XAA h.len) hl hn i (wd i E) hi2 (XAA hx) o v qkr).mono ?_;rintro e w1 ⟨rfl,hM,hT⟩;exact⟨R,(h.two hT hM (XAk ..) (set_u h.u i hv)).eq ql,Fr.of_two hT⟩
 .have e:rI (i:Int) o v E=(false,{ E with bad:=E.bad||false,n:=E.n+1 }):=by unfold rI yN;rw [hi,XAS hq];rfl
  rw [e];refine(RE _ mb g E.ws E.n c.words h.mem (XAA h.len) hl hn i (wd i E) hi2 (XAA hx) o v qd).mono ?_;rintro e w1 ⟨rfl,hM,hT⟩;exact⟨R,(h.two hT hM R h.u).eq ql,Fr.of_two hT⟩
theorem DA{T:TypeId}(w:World)(h:SW T w s mb g c E)(hn:E.n<=1000000)(a:Int)(v:Nat)(hi:inB a 1 E=true):Z 306 #[(mb,0),I a,J v] w λe w'=>
  e=.returned (.tuple #[J (wd a E:Int),I 0])/\SW T w' s mb g c (xY a v E)/\Fr s mb g w w':=by
 obtain⟨i,rfl,hi2,hx⟩:=Jw h hi;have hl:=h.c.words_le;have e:xY (i:Int) v E= { E with bad:=E.bad||false,ws:=E.ws.set i ((wd i E+v) % U64),n:=E.n+1 } :=by unfold xY;rw [hi];rfl
 rw [e];refine(Pe _ mb g E.ws E.n c.words h.mem (XAA h.len) hl hn i (wd i E) hi2 (XAA hx) v).mono ?_;rintro e w1 ⟨rfl,hM,hT⟩;exact⟨R,(h.two hT hM (XAk ..) (set_u h.u i (XAj _ qf))).eq ql,Fr.of_two hT⟩
end
theorem sC{fn:Func}{P:Program}{a:Tmp}{T:TypeId}(h:fn.results=#[.cell a T])(tmps:Array Value)(w:World){A:Addr}{v:Value}(ha:tmps.getD a undef=.pointer (some A))(hl:(loadVar T A).run P w=.ok v w):
  (results fn tmps).run P w=.ok v w:=by
 have ha':tmps[a]?.getD undef=.pointer (some A):=by simpa using ha
 simp [results,h,ha',asAddr,hl]
section
variable{w w':World}{s mb g:Nat}{c:Ch}{E:St}
theorem SW.rws{T:TypeId}{gs:List Nat}(h:SW T w s mb g c E)(r:Rws gs w w')(h1:s∉gs)(h2:mb∉gs)(h3:g∉gs):SW T w' s mb g c E:=
 ⟨h.blk.rws r h1,⟨h.mem.head.rws r h2,h.mem.row.rws r h3,h.mem.ne⟩,h.ne1,h.pL,h.ok,h.len,h.u,h.c⟩
theorem Only.rws{r:Nat}(h:Only r w w'):Rws [r] w w':=⟨h.os,h.tape,h.output,XAs h.size.symm,λk _ hk=>h.block k (by simpa using hk)⟩
theorem Fr.only{w1 w2:World}{r:Nat}(h:Fr s mb g w w1)(ho:Only r w1 w2)(hr:w.heap.size<=r):Fr s mb g w w2:=
 ⟨ho.os.trans h.os,ho.tape.trans h.tape,ho.output.trans h.output,XAL h.size (XAs ho.size.symm),λk hk h1=>(ho.block k qd).trans (h.block k hk h1)⟩
theorem SW.bj{T:TypeId}(h:SW T w s mb g c E):s<w.heap.size/\mb<w.heap.size/\g<w.heap.size:=⟨h.blk.lt,h.mem.head.lt,h.mem.row.lt⟩
theorem TV(w:World)(h:FlW w s mb g c E)(i o:Int)(f l q:Bool)(hq:cntF E.t.K=(⟨i,o,f,l⟩,q)):Z 295 #[(s,0)] w λe w'=>
  e=.returned (.agg #[I i,I o,.bool f,.bool l])/\FlW w' s mb g c (must (q && l) E)/\Fr s mb g w w':=by
 have hlt:=h.lt;obtain⟨l1,l2,l3⟩:=h.bj;have hK:=h.ok.K;have hK':(E.t.K:Int)<18446744073709551616:=qew
 have hh:=h;have HQ:=XAA hq;clear hq;have k17:w.cell? (s,17)=J E.t.K:=hh.cell 17;have f17:=hh.frz 17
 clear h;go_enter func295,ntmps295;go_wp2_with fail;refine(BV E.t.K i o f l q qd hK' HQ.out _).mono ?_;rintro e w1 ⟨rfl,hb1⟩;have Br:=(ak.new w 364 #[I 0,I 0,.bool false,.bool false]).below hb1;have hbw:Below w w w1:=qa;replace hh:=hh.below hbw;have rr:=Rws.of_below [s,mb,g] hbw;have z1:=hb1.size;rw [XAT] at z1;clear hb1 hbw hK hK' HQ;have Bn:=ak.new w1 364 #[I 0,I 0,.bool false,.bool false];cases q;all_goals
  go_wp2_with (first|(refine aU R 364 _ _ R _ R R (Bn) R qh qk ?_;intro w8 aC kb8;have kc8:=kb8.cell));have hl:=hh.bj;replace hh:=(hh.alloc (.cells #[I 0,I 0,.bool false,.bool false] 364)).rws aC.rws qj qj qj;replace rr:=Fr.only (Fr.alloc rr (.cells #[I 0,I 0,.bool false,.bool false] 364)) aC qd;replace Br:=(Br.alloc (.cells #[I 0,I 0,.bool false,.bool false] 364)).only aC qd;clear aC kc8;refine(flMustS _ _ hh).mono ?_;rintro e w4 ⟨rfl,h4,r4⟩;replace Br:=Br.rws r4 qj;replace kb8:=kb8.rws r4 qj;replace rr:=Rws.trans rr r4;have kc:=kb8.cell;clear kb8 hh r4;go_wp2_with (first|(refine aU R 364 _ _ R _ R R (Br) R qh qk ?_;intro w9 jg jj;have we:=jj.cell));refine XAI (sC R _ _ qu (cn 364 jj XEZ R qh)) R ?_;exact⟨R,h4.rws jg.rws qj qj qj,Fr.only rr jg (XAB _)⟩
theorem vu(w:World)(h:FlW w s mb g c E):Z 295 #[(s,0)] w λe w'=>
  e=.returned (.agg #[I (cY E).1.i,I (cY E).1.o,.bool (cY E).1.f,.bool (cY E).1.l])/\FlW w' s mb g c (cY E).2/\Fr s mb g w w':=by
 rcases hz:cntF (E.t.K:Int) with⟨⟨i,o,f,l⟩,q⟩;have e:cY E=(⟨i,o,f,l⟩,must (q && l) E):=qkn
 rw [e];exact TV w h i o f l q hz
end
theorem zW(E:St):(cY E).2.t=E.t/\(cY E).2.n=E.n:=by
 unfold cY;generalize cntF (E.t.K:Int)=q;exact⟨R,R⟩
theorem Ud(i o:Int)(f l:Bool)(w:World):(Instr.field 364 (.agg #[I i,I o,.bool f,.bool l]) 2).run prog w=.ok (.bool f) w:=qh
section
variable{w w':World}{s mb g:Nat}{c:Ch}{E:St}
theorem Hq(w:World)(h:FlW w s mb g c E)(hn:E.n<=1000000)(p:Int)(hp:E.t.pc=p)(hl:p=22\/p=38):Z 236 #[(s,0)] w λe w'=>
  e=.returned (.tuple #[])/\FlW w' s mb g c (jG c E)/\Fr s mb g w w':=by
 have hlt:=h.lt;have hh:=h.drew;have rr:=Rws.drew (Rws.refl [s,mb,g] w);clear h;go_enter func236,ntmps236;go_wp2_with fail;go_region_held3 (λw'=>bH w' s c (w'.cell? (s,12)=I E.t.ai)) (first|exact⟨hh.cell 1,hh.cell 2,hh.cell 3,hh.cell 4,hh.cell 5,hh.cell 6,hh.cell 12⟩|(have hq:=hh.pK hv;exact Xl)) (first|(go_at_call 198;refine(fX hh.c E.t.ai _).mono ?_;rintro e w1 ⟨rfl,hb1⟩;replace hh:=hh.below hb1;replace rr:=Fr.below rr hb1)|(go_at_call 294;refine Xr (flBehind _ (bE c E.t.ai) qbe) ?_)|(go_at_call 291;refine(flLoad _ hh hn (bh (bE c E.t.ai))).mono ?_;rintro e w3 ⟨rfl,h3,r3⟩;have hv:=fP hh (bh (bE c E.t.ai));replace hh:=h3;replace rr:=Rws.trans rr r3;have f3:=hh.frz 17;have g3:w3.cell? (s,17)=J E.t.K:=hh.cell 17));obtain⟨v,hvv⟩:=Xq ((loadS (bh (bE c E.t.ai)) E).1);rw [hvv] at hv;replace hh:=hh.pK hv;replace rr:=Fr.set rr 17 (J v);rw [hvv];generalize w3.setCell (s,17) (J v)=W at hh rr ⊢;go_wp2_with fail;replace hh:=hh.drew;replace rr:=Rws.drew rr;have HV:=XAA hvv;clear hvv;have hfd:=Ud;rcases hl with rfl|rfl
 .go_region_held3 (λw'=>w'.cell? (s,9)=I 22) (exact hp ▸ hh.cell 9) (first|(go_at_call 295;(refine(vu _ hh).mono ?_);rintro e w2 ⟨rfl,h2,r2⟩;replace hh:=h2;replace rr:=Rws.trans rr r2)|(go_at_call 292;(refine(flMustS _ _ hh).mono ?_);rintro e w4 ⟨rfl,h4,r4⟩;replace hh:=h4;replace rr:=Rws.trans rr r4));have k9:w4.cell? (s,9)=I 22:=hp ▸ hh.cell 9;have k16:w4.cell? (s,16)=J E.t.F:=hh.cell 16;go_wp2_with (first|(go_at_call 289;(refine(mE _ _ _ _ hh).mono ?_);rintro e w9 ⟨rfl,h9,r9⟩;replace hh:=h9;replace rr:=Rws.trans rr r9));refine Xe ?_;have e1:((E.t.F:Int) !=0)=decide (E.t.F≠0):=by rw [XBM];simp
  have hv':=HV.out;subst hv';exact⟨R,hh.eq (by simp only [jG];rw [XAD (show ¬E.t.pc=38 from qd),e1,<-vq];generalize cY ((loadS (bh (bE c E.t.ai)) E).2.sK (loadS (bh (bE c E.t.ai)) E).1)=q;rw [hp];simp),rr⟩
 .go_region_held3 (λw'=>w'.cell? (s,9)=I 38) (exact hp ▸ hh.cell 9) (first|(go_at_call 295;(refine(vu _ hh).mono ?_);rintro e w2 ⟨rfl,h2,r2⟩;replace hh:=h2;replace rr:=Rws.trans rr r2)|(go_at_call 292;(refine(flMustS _ _ hh).mono ?_);rintro e w4 ⟨rfl,h4,r4⟩;replace hh:=h4;replace rr:=Rws.trans rr r4));have k9:w4.cell? (s,9)=I 38:=hp ▸ hh.cell 9;go_wp2_with (first|(go_at_call 296;refine(flTo _ (39) hh).mono ?_;rintro e w5 ⟨rfl,h5,r5⟩;replace hh:=h5;replace rr:=Rws.trans rr r5));refine Xe ?_;have hv':=HV.out;subst hv';exact⟨R,hh.eq (by simp only [jG];rw [XAE hp];generalize cY ((loadS (bh (bE c E.t.ai)) E).2.sK (loadS (bh (bE c E.t.ai)) E).1)=q;rw [hp];simp),rr⟩
end
abbrev rL(s:Nat):Array Value:=#[.nilFunc,.nilFunc,.nilFunc,.nilFunc,.nilFunc,.nilFunc,.nilFunc,.nilFunc,.nilFunc,.nilFunc,.nilFunc,.nilFunc,.nilFunc,.nilFunc,.nilFunc,.nilFunc,.nilFunc,.nilFunc,.nilFunc,.nilFunc,.func (.func 234) #[(s,0)] #[],.func (.func 235) #[(s,0)] #[],.func (.func 236) #[(s,0)] #[],.func (.func 237) #[(s,0)] #[],.func (.func 237) #[(s,0)] #[],.nilFunc,.nilFunc,.nilFunc,.nilFunc,.nilFunc,.func (.func 238) #[(s,0)] #[],.func (.func 239) #[(s,0)] #[],.func (.func 240) #[(s,0)] #[],.func (.func 241) #[(s,0)] #[],.func (.func 242) #[(s,0)] #[],.func (.func 243) #[(s,0)] #[],.func (.func 244) #[(s,0)] #[],.func (.func 235) #[(s,0)] #[],.func (.func 236) #[(s,0)] #[],.func (.func 237) #[(s,0)] #[],.func (.func 245) #[(s,0)] #[],.func (.func 246) #[(s,0)] #[],.func (.func 247) #[(s,0)] #[],.func (.func 248) #[(s,0)] #[],.func (.func 249) #[(s,0)] #[],.nilFunc,.func (.func 250) #[(s,0)] #[],.func (.func 251) #[(s,0)] #[],.func (.func 252) #[(s,0)] #[],.func (.func 244) #[(s,0)] #[]]
theorem B6(s:Nat):(rL s).all (·.oneCell')=true:=qk
section
variable{w w':World}{s mb g:Nat}{c:Ch}{E:St}
theorem Hr(w:World)(h:FlW w s mb g c E)(k:Nat)(hk:k<50)(v:Value)(hv:(rL s)[k]? =some v)(hp:E.t.pc=k):Z 205 #[(s,0)] w λe w'=>
  e=.returned v/\Below w w w':=by
 have hmf:= @iv;have hlt:=h.lt;have k9:w.cell? (s,9)=I k:=hp ▸ h.cell 9;have i0:(0:Int)<=(k:Int):=qd
 have i1:(k:Int)<50:=qd;have i2:¬(50:Int)<=(k:Int):=qd;have i3:¬(k:Int)<0:=qd;have HV:=XAA hv;have Bn:=ak.new w 341 #[.nilFunc,.nilFunc,.nilFunc,.nilFunc,.nilFunc,.nilFunc,.nilFunc,.nilFunc,.nilFunc,.nilFunc,.nilFunc,.nilFunc,.nilFunc,.nilFunc,.nilFunc,.nilFunc,.nilFunc,.nilFunc,.nilFunc,.nilFunc,.nilFunc,.nilFunc,.nilFunc,.nilFunc,.nilFunc,.nilFunc,.nilFunc,.nilFunc,.nilFunc,.nilFunc,.nilFunc,.nilFunc,.nilFunc,.nilFunc,.nilFunc,.nilFunc,.nilFunc,.nilFunc,.nilFunc,.nilFunc,.nilFunc,.nilFunc,.nilFunc,.nilFunc,.nilFunc,.nilFunc,.nilFunc,.nilFunc,.nilFunc,.nilFunc];clear h hp hv hk;go_enter func205,ntmps205;go_wp2_with (first|(refine aU R 341 _ _ R (rL s) R R Bn R qh (B6 s) ?_;intro w8 aC kb8;have JL:=(aC.cell s 9 qd).trans ((XA9 w (.cells #[.nilFunc,.nilFunc,.nilFunc,.nilFunc,.nilFunc,.nilFunc,.nilFunc,.nilFunc,.nilFunc,.nilFunc,.nilFunc,.nilFunc,.nilFunc,.nilFunc,.nilFunc,.nilFunc,.nilFunc,.nilFunc,.nilFunc,.nilFunc,.nilFunc,.nilFunc,.nilFunc,.nilFunc,.nilFunc,.nilFunc,.nilFunc,.nilFunc,.nilFunc,.nilFunc,.nilFunc,.nilFunc,.nilFunc,.nilFunc,.nilFunc,.nilFunc,.nilFunc,.nilFunc,.nilFunc,.nilFunc,.nilFunc,.nilFunc,.nilFunc,.nilFunc,.nilFunc,.nilFunc,.nilFunc,.nilFunc,.nilFunc,.nilFunc] 341) ⟨s,9,none⟩ hlt).trans k9);have kv:=(kb8.cell k).trans HV.out;clear kb8));go_ret;exact⟨R,aI qa aC (XAB _)⟩
end
end Go.Proofs.YtedefgjfgdcfdaaGreatDoor
