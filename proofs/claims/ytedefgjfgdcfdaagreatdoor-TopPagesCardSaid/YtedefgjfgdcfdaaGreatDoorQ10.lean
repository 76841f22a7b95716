/- Walks and laws for TopPages. -/
import Derived.Test.YtedefgjfgdcfdaaGreatDoorQ09
namespace Go.Proofs.YtedefgjfgdcfdaaGreatDoor
open Go.RowKit Go.Proofs.Tryz
set_option maxRecDepth 100000
set_option maxHeartbeats 4000000
section
variable{T0:TypeId}{w w':World}{s mb g:Nat}{c:Ch}{bad:Bool}{k:Nat}{ar aj pc az aB ai aq au ay to aw fr:Int}{H T F K N:Nat}
def SX(T0:TypeId)(w:World)(s mb g:Nat)(c:Ch)(t:Tk)(bad:Bool)(k:Nat):Prop:=∃ws n,n<=k/\SW T0 w s mb g c ⟨t,bad,ws,n⟩
theorem SX.of{t:Tk}{ws:List Nat}{n:Nat}(h:SW T0 w s mb g c ⟨t,bad,ws,n⟩)(hn:n<=k):SX T0 w s mb g c t bad k:=⟨ws,n,hn,h⟩
theorem SX.sw{E:St}(h:SW T0 w s mb g c E)(hn:E.n<=k):SX T0 w s mb g c E.t E.bad k:=⟨E.ws,E.n,hn,h⟩
theorem SX.below{t:Tk}(h:SX T0 w s mb g c t bad k)(hb:Below w w w'):SX T0 w' s mb g c t bad k:=by obtain⟨ws,n,hn,h⟩:=h;exact⟨ws,n,hn,h.below hb⟩
theorem SX.drew{t:Tk}(h:SX T0 w s mb g c t bad k):SX T0 w.drew s mb g c t bad k:=by obtain⟨ws,n,hn,h⟩:=h;exact⟨ws,n,hn,h.drew⟩
theorem SX.alloc{t:Tk}(h:SX T0 w s mb g c t bad k)(o:Obj):SX T0 (w.alloc o) s mb g c t bad k:=by obtain⟨ws,n,hn,h⟩:=h;exact⟨ws,n,hn,h.alloc o⟩
theorem SX.lt{t:Tk}(h:SX T0 w s mb g c t bad k):s<w.heap.size:=by obtain⟨ws,n,hn,h⟩:=h;exact h.lt
theorem SX.co{t:Tk}(h:SX T0 w s mb g c t bad k):c.Ok:=by obtain⟨ws,n,hn,h⟩:=h;exact h.c
theorem SX.mono{t:Tk}{k':Nat}(h:SX T0 w s mb g c t bad k)(hk:k<=k'):SX T0 w s mb g c t bad k':=by obtain⟨ws,n,hn,h⟩:=h;exact⟨ws,n,XAL hn hk,h⟩
theorem SX.ok{t:Tk}(h:SX T0 w s mb g c t bad k):t.Ok:=by obtain⟨ws,n,hn,h⟩:=h;exact h.ok
theorem SX.frz{t:Tk}(h:SX T0 w s mb g c t bad k)(i:Nat):w.frozen? (s,i)=false:=by obtain⟨ws,n,hn,h⟩:=h;exact h.frz i
theorem SX.cell{t:Tk}(h:SX T0 w s mb g c t bad k)(i:Nat):w.cell? (s,i)=(pU mb c t bad)[i]? :=by obtain⟨ws,n,hn,h⟩:=h;exact h.cell i
theorem SX.all(h:SX T0 w s mb g c ⟨ar,aj,pc,az,aB,ai,aq,H,T,F,K,N,au,ay,to,aw,fr⟩ bad k):w.cell? (s,0)=some (.pointer (mb,0))/\w.cell? (s,1)=I c.C/\w.cell? (s,2)=I 32/\w.cell? (s,3)=I c.O/\w.cell? (s,4)=I 1/\w.cell? (s,5)=I 2/\w.cell? (s,6)=J c.key/\w.cell? (s,7)=I ar/\w.cell? (s,8)=I aj/\w.cell? (s,9)=I pc/\w.cell? (s,10)=I az/\w.cell? (s,11)=I aB/\w.cell? (s,12)=I ai/\w.cell? (s,13)=I aq/\w.cell? (s,14)=J H/\w.cell? (s,15)=J T/\w.cell? (s,16)=J F/\w.cell? (s,17)=J K/\w.cell? (s,18)=J N/\w.cell? (s,19)=I au/\w.cell? (s,20)=I ay/\w.cell? (s,21)=I to/\w.cell? (s,22)=I aw/\w.cell? (s,23)=I fr/\w.cell? (s,24)=some (.bool bad)/\∀i,w.frozen? ⟨s,i,none⟩=false:=⟨h.cell 0,h.cell 1,h.cell 2,h.cell 3,h.cell 4,h.cell 5,h.cell 6,h.cell 7,h.cell 8,h.cell 9,h.cell 10,h.cell 11,h.cell 12,h.cell 13,h.cell 14,h.cell 15,h.cell 16,h.cell 17,h.cell 18,h.cell 19,h.cell 20,h.cell 21,h.cell 22,h.cell 23,h.cell 24,h.frz⟩
theorem SX.pPc(h:SX T0 w s mb g c ⟨ar,aj,pc,az,aB,ai,aq,H,T,F,K,N,au,ay,to,aw,fr⟩ bad k)(x:Int):SX T0 (w.setCell (s,9) (I x)) s mb g c ⟨ar,aj,x,az,aB,ai,aq,H,T,F,K,N,au,ay,to,aw,fr⟩ bad k:=by obtain⟨ws,n,hn,h⟩:=h;exact⟨ws,n,hn,h.pPc x⟩
theorem SX.nX(h:SX T0 w s mb g c ⟨ar,aj,pc,az,aB,ai,aq,H,T,F,K,N,au,ay,to,aw,fr⟩ bad k)(x:Int):SX T0 (w.setCell (s,10) (I x)) s mb g c ⟨ar,aj,pc,x,aB,ai,aq,H,T,F,K,N,au,ay,to,aw,fr⟩ bad k:=by obtain⟨ws,n,hn,h⟩:=h;exact⟨ws,n,hn,h.nX x⟩
theorem SX.zm(h:SX T0 w s mb g c ⟨ar,aj,pc,az,aB,ai,aq,H,T,F,K,N,au,ay,to,aw,fr⟩ bad k)(x:Int):SX T0 (w.setCell (s,11) (I x)) s mb g c ⟨ar,aj,pc,az,x,ai,aq,H,T,F,K,N,au,ay,to,aw,fr⟩ bad k:=by obtain⟨ws,n,hn,h⟩:=h;exact⟨ws,n,hn,h.zm x⟩
theorem SX.ss(h:SX T0 w s mb g c ⟨ar,aj,pc,az,aB,ai,aq,H,T,F,K,N,au,ay,to,aw,fr⟩ bad k)(x:Int):SX T0 (w.setCell (s,12) (I x)) s mb g c ⟨ar,aj,pc,az,aB,x,aq,H,T,F,K,N,au,ay,to,aw,fr⟩ bad k:=by obtain⟨ws,n,hn,h⟩:=h;exact⟨ws,n,hn,h.ss x⟩
theorem SX.mP(h:SX T0 w s mb g c ⟨ar,aj,pc,az,aB,ai,aq,H,T,F,K,N,au,ay,to,aw,fr⟩ bad k)(x:Int):SX T0 (w.setCell (s,13) (I x)) s mb g c ⟨ar,aj,pc,az,aB,ai,x,H,T,F,K,N,au,ay,to,aw,fr⟩ bad k:=by obtain⟨ws,n,hn,h⟩:=h;exact⟨ws,n,hn,h.mP x⟩
theorem SX.pH(h:SX T0 w s mb g c ⟨ar,aj,pc,az,aB,ai,aq,H,T,F,K,N,au,ay,to,aw,fr⟩ bad k){x:Nat}(hx:x<U64):SX T0 (w.setCell (s,14) (J x)) s mb g c ⟨ar,aj,pc,az,aB,ai,aq,x,T,F,K,N,au,ay,to,aw,fr⟩ bad k:=by obtain⟨ws,n,hn,h⟩:=h;exact⟨ws,n,hn,h.pH hx⟩
theorem SX.pT(h:SX T0 w s mb g c ⟨ar,aj,pc,az,aB,ai,aq,H,T,F,K,N,au,ay,to,aw,fr⟩ bad k){x:Nat}(hx:x<U64):SX T0 (w.setCell (s,15) (J x)) s mb g c ⟨ar,aj,pc,az,aB,ai,aq,H,x,F,K,N,au,ay,to,aw,fr⟩ bad k:=by obtain⟨ws,n,hn,h⟩:=h;exact⟨ws,n,hn,h.pT hx⟩
theorem SX.pF(h:SX T0 w s mb g c ⟨ar,aj,pc,az,aB,ai,aq,H,T,F,K,N,au,ay,to,aw,fr⟩ bad k){x:Nat}(hx:x<U64):SX T0 (w.setCell (s,16) (J x)) s mb g c ⟨ar,aj,pc,az,aB,ai,aq,H,T,x,K,N,au,ay,to,aw,fr⟩ bad k:=by obtain⟨ws,n,hn,h⟩:=h;exact⟨ws,n,hn,h.pF hx⟩
theorem SX.pK(h:SX T0 w s mb g c ⟨ar,aj,pc,az,aB,ai,aq,H,T,F,K,N,au,ay,to,aw,fr⟩ bad k){x:Nat}(hx:x<U64):SX T0 (w.setCell (s,17) (J x)) s mb g c ⟨ar,aj,pc,az,aB,ai,aq,H,T,F,x,N,au,ay,to,aw,fr⟩ bad k:=by obtain⟨ws,n,hn,h⟩:=h;exact⟨ws,n,hn,h.pK hx⟩
theorem SX.pN(h:SX T0 w s mb g c ⟨ar,aj,pc,az,aB,ai,aq,H,T,F,K,N,au,ay,to,aw,fr⟩ bad k){x:Nat}(hx:x<U64):SX T0 (w.setCell (s,18) (J x)) s mb g c ⟨ar,aj,pc,az,aB,ai,aq,H,T,F,K,x,au,ay,to,aw,fr⟩ bad k:=by obtain⟨ws,n,hn,h⟩:=h;exact⟨ws,n,hn,h.pN hx⟩
theorem SX.ur(h:SX T0 w s mb g c ⟨ar,aj,pc,az,aB,ai,aq,H,T,F,K,N,au,ay,to,aw,fr⟩ bad k)(x:Int):SX T0 (w.setCell (s,19) (I x)) s mb g c ⟨ar,aj,pc,az,aB,ai,aq,H,T,F,K,N,x,ay,to,aw,fr⟩ bad k:=by obtain⟨ws,n,hn,h⟩:=h;exact⟨ws,n,hn,h.ur x⟩
theorem SX.wI(h:SX T0 w s mb g c ⟨ar,aj,pc,az,aB,ai,aq,H,T,F,K,N,au,ay,to,aw,fr⟩ bad k)(x:Int):SX T0 (w.setCell (s,20) (I x)) s mb g c ⟨ar,aj,pc,az,aB,ai,aq,H,T,F,K,N,au,x,to,aw,fr⟩ bad k:=by obtain⟨ws,n,hn,h⟩:=h;exact⟨ws,n,hn,h.wI x⟩
theorem SX.lR(h:SX T0 w s mb g c ⟨ar,aj,pc,az,aB,ai,aq,H,T,F,K,N,au,ay,to,aw,fr⟩ bad k)(x:Int):SX T0 (w.setCell (s,21) (I x)) s mb g c ⟨ar,aj,pc,az,aB,ai,aq,H,T,F,K,N,au,ay,x,aw,fr⟩ bad k:=by obtain⟨ws,n,hn,h⟩:=h;exact⟨ws,n,hn,h.lR x⟩
theorem SX.pBack(h:SX T0 w s mb g c ⟨ar,aj,pc,az,aB,ai,aq,H,T,F,K,N,au,ay,to,aw,fr⟩ bad k)(x:Int):SX T0 (w.setCell (s,22) (I x)) s mb g c ⟨ar,aj,pc,az,aB,ai,aq,H,T,F,K,N,au,ay,to,x,fr⟩ bad k:=by obtain⟨ws,n,hn,h⟩:=h;exact⟨ws,n,hn,h.pBack x⟩
end
def U6(v:Int):Prop:=0<=v/\v<18446744073709551616
theorem U6.cast{n:Nat}(h:n<U64):U6 (n:Int):=by have:U64=18446744073709551616:=rfl;exact⟨qd,qd⟩
theorem U6.max:U6 18446744073709551615:=⟨qf,qf⟩
theorem U6.one:U6 1:=⟨qf,qf⟩
theorem U6.zero:U6 0:=⟨qf,qf⟩
theorem U6.wrap(x:Int):U6 (IntKind.u64.wrap x):=by
 have h:IntKind.u64.wrap x=x % 18446744073709551616:=by simp [IntKind.wrap,IntKind.bits,IntKind.signed]
 rw [h];exact⟨XBH _ qf,XBW _ qf⟩
theorem U6.nat{v:Int}(h:U6 v):∃n:Nat,v=n/\n<U64:=by
 obtain⟨n,rfl⟩:=XAb h.1;exact⟨n,R,by have:=h.2;have e:U64=18446744073709551616:=rfl;omega⟩
theorem Af{v:Nat}(h:v<U64):(0:Int)<=(v:Int)/\(v:Int)<18446744073709551616:=qv
theorem Ee(v:Nat)(hv:v<U64)(w:World):Z 322 #[J v] w λe w'=>∃(a b:Int)(q:Bool),e=.returned (.tuple #[I a,I b,.bool q])/\w'=w:=by
 obtain⟨a,b,q,hq⟩:∃a b q,jI (v:Int)=(a,b,q):=⟨_,_,_,R⟩;exact(IY _ a b q (Af hv).1 (Af hv).2 hq w).mono λ_ _ h=>⟨a,b,q,h.1,h.2⟩
theorem Aj(v:Nat)(hv:v<U64)(w:World):Z 299 #[J v] w λe w'=>∃(a b:Int)(q:Bool),e=.returned (.tuple #[I a,I b,.bool q])/\w'=w:=by
 obtain⟨a,b,q,hq⟩:∃a b q,fQ (v:Int)=(a,b,q):=⟨_,_,_,R⟩;exact(wK _ a b q (Af hv).1 (Af hv).2 hq w).mono λ_ _ h=>⟨a,b,q,h.1,h.2⟩
theorem ZP(i o:Int)(f l:Bool):0<=(eM i o f l).1/\(eM i o f l).1<18446744073709551616:=by
 have h0:∀b:Bool,∀x:Int,(if b=true then x else 0)=x\/(if b=true then x else 0)=0:=λb x=>by cases b<;>simp
 unfold eM;split
 .rename_i hk;obtain⟨a1,a2,a3,a4⟩:=DC hk;show 0<=jQ i o f l/\jQ i o f l<_;unfold jQ;rcases h0 f 65536 with e1|e1<;>rcases h0 l 131072 with e2|e2<;>rw [e1,e2]<;>omega
 .exact⟨qf,qf⟩
theorem L_(i o:Int)(f l:Bool)(w:World):Z 297 #[.agg #[I i,I o,.bool f,.bool l]] w λe w'=>∃(v:Nat)(er:Int),v<U64/\e=.returned (.tuple #[J v,I er])/\Below w w w':=by
 obtain⟨v,er,hv⟩:∃v er,eM i o f l=(v,er):=⟨_,_,R⟩;have hvb:=ZP i o f l;rw [hv] at hvb;obtain⟨x,rfl⟩:=XAb hvb.1;exact(wJ i o f l _ er hv w).mono λ_ _ h=>⟨x,er,qgj,h.1,h.2⟩
theorem L9(n:Int)(key:Nat)(hk:key<18446744073709551616)(i:Int)(w:World):Z 286 #[I n,J key,I i] w λe w'=>∃(v:Nat)(er:Int),v<U64/\e=.returned (.tuple #[J v,I er])/\w'=w:=by
 obtain⟨v,er,hv⟩:∃v er,gT n key i=(v,er):=⟨_,_,R⟩;have hvb:=CP n key i;rw [hv] at hvb;obtain⟨x,rfl⟩:=XAb hvb.1;exact(CQ n key hk i _ er hv w).mono λ_ _ h=>⟨x,er,qgj,h.1,h.2⟩
theorem Ef(v key:Nat)(hv:v<U64)(hk:key<18446744073709551616)(i:Int)(w:World):Z 283 #[J v,J key,I i] w λe w'=>∃(n:Int)(b:Bool),e=.returned (.tuple #[I n,.bool b])/\w'=w:=by
 obtain⟨n,b,h⟩:∃n b,jq v key i=(n,b):=⟨_,_,R⟩;exact(D2 v key hv hk i n b h w).mono λ_ _ h=>⟨n,b,h.1,h.2⟩
theorem wW(c:Ch)(ai:Int)(w:World):Z 284 #[dh c,I ai] w λe w'=>∃v:Nat,v<U64/\e=.returned (J v)/\Below w w w':=
 (vk ai w).mono λ_ _ h=>⟨_,wg c ai,h.1,h.2⟩

section
variable{w w':World}{s mb g:Nat}{c:Ch}{E:St}
theorem BE(w:World)(b:Bool)(x y:Int)(h:BkW w s mb g c E):Z 314 #[(s,0),.bool b,I x,I y] w λe w'=>
  e=.returned (.tuple #[])/\BkW w' s mb g c (E.sPc (bif b then x else y))/\Fr s mb g w w':=by
 have hh:=h;have rr:=Rws.refl [s,mb,g] w;have hlt:=h.lt;clear h;cases b;all_goals
  go_enter func314,ntmps314;go_wp2_with (first|(go_at_call 310;(with_reducible refine(bkTo _ (_) hh).mono ?_);rintro e w5 ⟨rfl,h5,r5⟩;replace hh:=h5;replace rr:=Rws.trans rr r5));refine Xe ?_;exact⟨R,hh,rr⟩
theorem Qm(w:World)(h:BkW w s mb g c E)(i o:Int)(f l q:Bool)(hq:cntF E.t.K=(⟨i,o,f,l⟩,q)):Z 312 #[(s,0)] w λe w'=>
  e=.returned (.agg #[I i,I o,.bool f,.bool l])/\BkW w' s mb g c (must (q && l) E)/\Fr s mb g w w':=by
 have hlt:=h.lt;obtain⟨l1,l2,l3⟩:=h.bj;have hK:=h.ok.K;have hK':(E.t.K:Int)<18446744073709551616:=qew
 have hh:=h;have HQ:=XAA hq;clear hq;have k17:w.cell? (s,17)=J E.t.K:=hh.cell 17;have f17:=hh.frz 17
 clear h;go_enter func312,ntmps312;go_wp2_with fail;refine(BV E.t.K i o f l q qd hK' HQ.out _).mono ?_;rintro e w1 ⟨rfl,hb1⟩;have Br:=(ak.new w 364 #[I 0,I 0,.bool false,.bool false]).below hb1;have hbw:Below w w w1:=qa;replace hh:=hh.below hbw;have rr:=Rws.of_below [s,mb,g] hbw;have z1:=hb1.size;rw [XAT] at z1;clear hb1 hbw hK hK' HQ;have Bn:=ak.new w1 364 #[I 0,I 0,.bool false,.bool false];cases q;all_goals
  go_wp2_with (first|(refine aU R 364 _ _ R _ R R (Bn) R qh qk ?_;intro w8 aC kb8;have kc8:=kb8.cell));have hl:=hh.bj;replace hh:=(hh.alloc (.cells #[I 0,I 0,.bool false,.bool false] 364)).rws aC.rws qj qj qj;replace rr:=Fr.only (Fr.alloc rr (.cells #[I 0,I 0,.bool false,.bool false] 364)) aC qd;replace Br:=(Br.alloc (.cells #[I 0,I 0,.bool false,.bool false] 364)).only aC qd;clear aC kc8;refine(bkMustS _ _ hh).mono ?_;rintro e w4 ⟨rfl,h4,r4⟩;replace Br:=Br.rws r4 qj;replace kb8:=kb8.rws r4 qj;replace rr:=Rws.trans rr r4;have kc:=kb8.cell;clear kb8 hh r4;go_wp2_with (first|(refine aU R 364 _ _ R _ R R (Br) R qh qk ?_;intro w9 jg jj;have we:=jj.cell));refine XAI (sC R _ _ qu (cn 364 jj XEZ R qh)) R ?_;exact⟨R,h4.rws jg.rws qj qj qj,Fr.only rr jg (XAB _)⟩
theorem Gv(w:World)(h:BkW w s mb g c E):Z 312 #[(s,0)] w λe w'=>
  e=.returned (.agg #[I (cY E).1.i,I (cY E).1.o,.bool (cY E).1.f,.bool (cY E).1.l])/\BkW w' s mb g c (cY E).2/\Fr s mb g w w':=by
 rcases hz:cntF (E.t.K:Int) with⟨⟨i,o,f,l⟩,q⟩;have e:cY E=(⟨i,o,f,l⟩,must (q && l) E):=qkn
 rw [e];exact Qm w h i o f l q hz
end
end Go.Proofs.YtedefgjfgdcfdaaGreatDoor
