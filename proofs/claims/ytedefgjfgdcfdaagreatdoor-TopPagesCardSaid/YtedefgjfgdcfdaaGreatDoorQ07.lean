/- Walks and laws for TopPages. -/
import Derived.Test.YtedefgjfgdcfdaaGreatDoorQ05
import Derived.Test.YtedefgjfgdcfdaaGreatDoorQ06
namespace Go.Proofs.YtedefgjfgdcfdaaGreatDoor
open Go.RowKit Go.Proofs.Tryz
set_option maxRecDepth 100000
set_option maxHeartbeats 4000000
abbrev pU(mb:Nat)(c:Ch)(t:Tk)(bad:Bool):Array Value:=
 #[(mb,0),I c.C,I 32,I c.O,I 1,I 2,J c.key,
 I t.ar,I t.aj,I t.pc,I t.az,I t.aB,I t.ai,I t.aq,
 J t.H,J t.T,J t.F,J t.K,J t.N,
 I t.au,I t.ay,I t.to,I t.aw,I t.fr,.bool bad]
abbrev dh(c:Ch):Value:=.agg #[I c.C,I 32,I c.O,I 1,I 2,J c.key]
abbrev aH(t:Tk):Value:=
 .agg #[I t.ar,I t.aj,I t.pc,I t.az,I t.aB,I t.ai,I t.aq,
 J t.H,J t.T,J t.F,J t.K,J t.N,
 I t.au,I t.ay,I t.to,I t.aw,I t.fr]
structure SW(T:TypeId)(w:World)(s mb g:Nat)(c:Ch)(E:St):Prop where
 blk:ak w s T (pU mb c E.t E.bad)
 mem:bc 340 w mb g E.ws E.n
 ne1:s≠mb
 pL:s≠g
 ok:E.t.Ok
 len:E.ws.length=c.words
 u:∀x∈E.ws,x<U64
 c:c.Ok
section
variable{T:TypeId}{w w':World}{s mb g:Nat}{c:Ch}{E:St}
theorem SW.below(h:SW T w s mb g c E)(hb:Below w w w'):SW T w' s mb g c E:=⟨h.blk.below hb,h.mem.below hb,h.ne1,h.pL,h.ok,h.len,h.u,h.c⟩
theorem SW.alloc(h:SW T w s mb g c E)(o:Obj):SW T (w.alloc o) s mb g c E:=h.below ((XAC _ _).alloc (XAB _) _)
theorem SW.drew(h:SW T w s mb g c E):SW T w.drew s mb g c E:=⟨h.blk,h.mem.drew,h.ne1,h.pL,h.ok,h.len,h.u,h.c⟩
theorem SW.lt(h:SW T w s mb g c E):s<w.heap.size:=h.blk.lt
theorem SW.cell(h:SW T w s mb g c E)(i:Nat):w.cell? (s,i)=(pU mb c E.t E.bad)[i]? :=h.blk.cell i
theorem SW.frz(h:SW T w s mb g c E)(i:Nat):w.frozen? (s,i)=false:=h.blk.frozen i
theorem SW.eq{σ':St}(h:SW T w s mb g c σ')(e:σ'=E):SW T w s mb g c E:=e ▸ h
theorem SW.put(h:SW T w s mb g c E)(i:Nat)(v:Value)(σ':St)(e:(pU mb c E.t E.bad).setIfInBounds i v=pU mb c σ'.t σ'.bad)(hw:σ'.ws=E.ws)(hn:σ'.n=E.n)(ho:σ'.t.Ok):SW T (w.setCell (s,i) v) s mb g c σ':=by
 refine⟨?_,?_,h.ne1,h.pL,ho,by rw [hw];exact h.len,by rw [hw];exact h.u,h.c⟩
 .have:=h.blk.aJ i v
  rwa [e] at this
 .rw [hw,hn];exact h.mem.far (λe=>h.ne1 e.symm) (λe=>h.pL e.symm) v
theorem SW.pPc(h:SW T w s mb g c E)(x:Int):SW T (w.setCell (s,9) (I x)) s mb g c (E.sPc x):=h.put 9 _ _ R R R ⟨h.ok.H,h.ok.T,h.ok.F,h.ok.K,h.ok.N⟩
theorem SW.nX(h:SW T w s mb g c E)(x:Int):SW T (w.setCell (s,10) (I x)) s mb g c (E.zG x):=h.put 10 _ _ R R R ⟨h.ok.H,h.ok.T,h.ok.F,h.ok.K,h.ok.N⟩
theorem SW.zm(h:SW T w s mb g c E)(x:Int):SW T (w.setCell (s,11) (I x)) s mb g c (E.DY x):=h.put 11 _ _ R R R ⟨h.ok.H,h.ok.T,h.ok.F,h.ok.K,h.ok.N⟩
theorem SW.ss(h:SW T w s mb g c E)(x:Int):SW T (w.setCell (s,12) (I x)) s mb g c (E.zJ x):=h.put 12 _ _ R R R ⟨h.ok.H,h.ok.T,h.ok.F,h.ok.K,h.ok.N⟩
theorem SW.mP(h:SW T w s mb g c E)(x:Int):SW T (w.setCell (s,13) (I x)) s mb g c (E.zI x):=h.put 13 _ _ R R R ⟨h.ok.H,h.ok.T,h.ok.F,h.ok.K,h.ok.N⟩
theorem SW.pH(h:SW T w s mb g c E){x:Nat}(hx:x<U64):SW T (w.setCell (s,14) (J x)) s mb g c (E.sH x):=h.put 14 _ _ R R R ⟨hx,h.ok.T,h.ok.F,h.ok.K,h.ok.N⟩
theorem SW.pT(h:SW T w s mb g c E){x:Nat}(hx:x<U64):SW T (w.setCell (s,15) (J x)) s mb g c (E.sT x):=h.put 15 _ _ R R R ⟨h.ok.H,hx,h.ok.F,h.ok.K,h.ok.N⟩
theorem SW.pF(h:SW T w s mb g c E){x:Nat}(hx:x<U64):SW T (w.setCell (s,16) (J x)) s mb g c (E.sF x):=h.put 16 _ _ R R R ⟨h.ok.H,h.ok.T,hx,h.ok.K,h.ok.N⟩
theorem SW.pK(h:SW T w s mb g c E){x:Nat}(hx:x<U64):SW T (w.setCell (s,17) (J x)) s mb g c (E.sK x):=h.put 17 _ _ R R R ⟨h.ok.H,h.ok.T,h.ok.F,hx,h.ok.N⟩
theorem SW.pN(h:SW T w s mb g c E){x:Nat}(hx:x<U64):SW T (w.setCell (s,18) (J x)) s mb g c (E.sN x):=h.put 18 _ _ R R R ⟨h.ok.H,h.ok.T,h.ok.F,h.ok.K,hx⟩
theorem SW.ur(h:SW T w s mb g c E)(x:Int):SW T (w.setCell (s,19) (I x)) s mb g c (E.zH x):=h.put 19 _ _ R R R ⟨h.ok.H,h.ok.T,h.ok.F,h.ok.K,h.ok.N⟩
theorem SW.wI(h:SW T w s mb g c E)(x:Int):SW T (w.setCell (s,20) (I x)) s mb g c (E.Ls x):=h.put 20 _ _ R R R ⟨h.ok.H,h.ok.T,h.ok.F,h.ok.K,h.ok.N⟩
theorem SW.lR(h:SW T w s mb g c E)(x:Int):SW T (w.setCell (s,21) (I x)) s mb g c (E.sTo x):=h.put 21 _ _ R R R ⟨h.ok.H,h.ok.T,h.ok.F,h.ok.K,h.ok.N⟩
theorem SW.pBack(h:SW T w s mb g c E)(x:Int):SW T (w.setCell (s,22) (I x)) s mb g c (E.acy x):=h.put 22 _ _ R R R ⟨h.ok.H,h.ok.T,h.ok.F,h.ok.K,h.ok.N⟩
theorem SW.pBad(h:SW T w s mb g c E)(x:Bool):SW T (w.setCell (s,24) (.bool x)) s mb g c (E.sBad x):=h.put 24 _ _ R R R ⟨h.ok.H,h.ok.T,h.ok.F,h.ok.K,h.ok.N⟩
abbrev Fr(s mb g:Nat)(w w':World):Prop:=Rws [s,mb,g] w w'
theorem Fr.set(h:Fr s mb g w w')(i:Nat)(v:Value):Fr s mb g w (w'.setCell (s,i) v):=Rws.set h ql i v
theorem Fr.below{w'':World}(h:Fr s mb g w w')(hb:Below w' w' w''):Fr s mb g w w'':=Rws.trans h (Rws.of_below _ hb)
theorem Fr.alloc(h:Fr s mb g w w')(o:Obj):Fr s mb g w (w'.alloc o):=h.below ((XAC _ _).alloc (XAB _) _)
theorem Fr.of_two(h:Two mb g w w'):Fr s mb g w w':=⟨h.os,h.tape,h.output,h.size,λk hk h1=>h.block k hk (λe=>h1 (by simp [e])) (λe=>h1 (by simp [e]))⟩
theorem SW.two{ws:List Nat}{n:Nat}(h:SW T w s mb g c E)(hT:Two mb g w w')(hM:bc 340 w' mb g ws n)(hl:ws.length=E.ws.length)(hu:∀x∈ws,x<U64):SW T w' s mb g c { E with ws:=ws,n:=n } :=
 ⟨(hT.block s h.blk.lt h.ne1 h.pL).trans h.blk,hM,h.ne1,h.pL,h.ok,hl.trans h.len,hu,h.c⟩
theorem Ch.Ok.words_le(h:c.Ok):c.words<=4096:=by
 have:=h.c8;have:=h.o16;unfold Ch.words;omega
theorem SW.acI(h:SW T w s mb g c E)(a:Int):wd a E<U64:=by
 unfold wd;rw [XBA];cases e:E.ws[a.toNat]? with
 |none=>exact(by decide:(0:Nat)<U64)
 |some x=>exact h.u x (XAi e)
theorem fP(h:SW T w s mb g c E)(a:Int):(loadS a E).1<U64:=by
 show(bif inB a 1 E then wd a E else 0)<U64;cases inB a 1 E
 .exact(by decide:(0:Nat)<U64)
 .exact h.acI a
end
section
variable{c:Ch}
theorem IV(h:c.Ok)(x:Int):dm c x<1000000:=by
 have:=h.c8;unfold dm;split<;>omega
theorem Lc(h:c.Ok)(x:Int):dO c x<1000000:=by
 have:=h.c8;unfold dO;split<;>omega
theorem Ii(h:c.Ok)(x:Int):bE c x<1000000:=by
 have:=h.c8;unfold bE;split<;>omega
end
theorem wg(c:Ch)(x:Int):gC c x<18446744073709551616:=XAj _ qf
theorem IX(s o:Int):0<=(gR s o).1/\(gR s o).1<4096:=by
 unfold gR;split
 .rename_i h;have:=(CJ s o).1 h;show 0<=(s+1)*64+(o+1)/\(s+1)*64+(o+1)<4096;omega
 .exact⟨qf,qf⟩
theorem set_u{ws:List Nat}(h:∀x∈ws,x<U64)(i:Nat){v:Nat}(hv:v<U64):∀x∈ws.set i v,x<U64:=by
 intro x hx;rcases XEW hx with h1|h1
 .exact h x h1
 .rw [h1];exact hv
theorem CP(n:Int)(k:Nat)(i:Int):0<=(gT n k i).1/\(gT n k i).1<18446744073709551616:=by
 unfold gT;split
 .rename_i h;have h1:=(DI n).1 h.1;have h2:kQ (n+1).toNat k i.toNat<18446744073709551616:=I9 qd _ _;exact⟨Int.natCast_nonneg _,by show((kQ (n+1).toNat k i.toNat:Nat):Int)<_;omega⟩
 .exact⟨XBG _,by show(0:Int)<_;omega⟩
theorem DE{a b:Bool}{E:St}(h:a=b):must a E=must b E:=by rw [h]
structure MW(w:World)(mb g:Nat)(c:Ch)(ws:List Nat)(n:Nat):Prop where
 mem:bc 340 w mb g ws n
 len:ws.length=c.words
 u:∀x∈ws,x<U64
 c:c.Ok
section
variable{w w':World}{mb g:Nat}{c:Ch}{ws:List Nat}{n:Nat}{T:TypeId}{s:Nat}{E:St}
theorem MW.below(h:MW w mb g c ws n)(hb:Below w w w'):MW w' mb g c ws n:=⟨h.mem.below hb,h.len,h.u,h.c⟩
theorem MW.rws{gs:List Nat}(h:MW w mb g c ws n)(hr:Rws gs w w')(h1:mb∉gs)(h2:g∉gs):MW w' mb g c ws n:=⟨⟨h.mem.head.rws hr h1,h.mem.row.rws hr h2,h.mem.ne⟩,h.len,h.u,h.c⟩
theorem MW.lt(h:MW w mb g c ws n):mb<w.heap.size:=h.mem.head.lt
theorem MW.jN(h:MW w mb g c ws n):g<w.heap.size:=h.mem.row.lt
theorem MW.step(h:MW w mb g c ws n)(T:TypeId){t:Tk}(ht:t.Ok):SW T (w.alloc (.cells (pU mb c t false) T)) w.heap.size mb g c ⟨t,false,ws,n⟩:=
 ⟨ak.new w T _,h.mem.alloc _,λe=>by have:=h.lt;omega,λe=>by have:=h.jN;omega,ht,h.len,h.u,h.c⟩
theorem SW.mw(h:SW T w s mb g c E):MW w mb g c E.ws E.n:=⟨h.mem,h.len,h.u,h.c⟩
theorem Fr.drop{a:World}(h:Fr s mb g w w')(hr:Rws [mb,g] a w)(hs:a.heap.size<=s):Rws [mb,g] a w':=by
 refine⟨h.os.trans hr.os,h.tape.trans hr.tape,h.output.trans hr.output,XAL hr.size h.size,λk hk h1=>?_⟩;refine(h.block k (XAH hk hr.size) ?_).trans (hr.block k hk h1);simp only [XBD,XBn,XCZ,not_or] at h1 ⊢;exact⟨qd,h1.1,h1.2⟩
end
def eW(t:Tk)(E:St):Tk:=if E.bad=true then { t with az:=3 } else E.t
theorem aak{P:Program}(mty kt et:TypeId)(q:IntKind)(hm:P.underlying mty=some (.map kt et))(hk:P.underlying kt=some (.int q))(hz:∀w,(zeroValue et).run P w=.ok .nilFunc w){w:World}{r:Nat}{es:Array MapEntry}{clock:Nat}
 (hb:w.heap[r]? =some (.map es clock))(n:Int)(b:Bool)(v:Value)
 (hf:∃a,Instr.findNow (.int q) (.int q n) es.toList 0=some a/\((b=false/\v=.nilFunc/\a=none)\/(b=true/\∃i,a=some (i,v)))):
  (Instr.lookup mty (.map (some r)) (.int q n) true).run P w=.ok (.tuple #[v,.bool b]) w:=by
 have hc:(Instr.checkKey es.isEmpty 10000 kt (.int q n)).run P w=.ok () w:=XEX (k:=.int q n) hk qkl _ 9999;obtain⟨a,hfa,h⟩:=hf;rcases h with⟨rfl,rfl,rfl⟩|⟨rfl,i,rfl⟩
 .simp [Instr.lookup,XBv hm,XCY hb,hc,XC3 hk hfa,hz,Result.andThen]
 .simp [Instr.lookup,XBv hm,XCY hb,hc,XC3 hk hfa,Result.andThen]
theorem ak.range{w:World}{g:Nat}{t:TypeId}{cs:Array Value}(h:ak w g t cs):w.rangeAt g 0 cs.toList:=λj v hj=>by
 rw [XAV,h.cell];simpa using hj
theorem ak.DT{w:World}{g:Nat}{t:TypeId}{cs:Array Value}(h:ak w g t cs)(o:Nat)(l:List Value)(hl:∀j v,l[j]? =some v->cs[o+j]? =some v):w.rangeAt g o l:=λj v hj=>by
 rw [h.cell];exact hl j v hj
theorem SW.uA{T:TypeId}{w:World}{s mb g:Nat}{c:Ch}{E:St}(h:SW T w s mb g c E):w.rangeAt s 7 (match aH E.t with| .agg x=>x.toList|_=> []):=by
 refine h.blk.DT 7 _ λj v hj=>?_
 match j,hj with
 |0,hj|1,hj|2,hj|3,hj|4,hj|5,hj|6,hj|7,hj|8,hj|9,hj|10,hj|11,hj|12,hj|13,hj|14,hj|15,hj|16,hj=>exact hj
 |j+17,hj=>simp at hj
theorem dc{fn:Func}{P:Program}{a t:Tmp}{T:TypeId}(h:fn.results=#[.cell a T,.tmp t])(tmps:Array Value)(w:World){A:Addr}{v x:Value}(ha:tmps.getD a undef=.pointer (some A))(he:tmps.getD t undef=x)(hl:(loadVar T A).run P w=.ok v w):
  (results fn tmps).run P w=.ok (.tuple #[v,x]) w:=by
 have he':tmps[t]?.getD undef=x:=by simpa using he
 have ha':tmps[a]?.getD undef=.pointer (some A):=by simpa using ha
 simp [results,h,ha',he',asAddr,hl,Result.andThen]
theorem cn{P:Program}{w:World}{b:Nat}{t:TypeId}{cs:Array Value}(T:TypeId)(h:ak w b t cs){d:TypeDesc}(hu:P.underlying T=some d)(hd:d.isRow=true)(hi:(P.info? T).map (·.size)=some cs.size):
  (loadVar T ⟨b,0,none⟩).run P w=.ok (.agg cs) w:=by
 have:=run_loadVar_mid (P:=P) w b 0 T cs.toList d h.range hu hd (by simpa using hi);simpa using this
abbrev MustL(f:FuncId):Prop:=∀(w:World),∀(s:Nat),∀(b a:Bool),w.cell? (s,24)=some (.bool b)->w.frozen? (s,24)=false->Z f #[(s,0),.bool a] w λe w'=>
  e=.returned (.tuple #[])/\w'=w.setCell (s,24) (.bool (b|| !a))
theorem spfMust{p:Prop}(x:p:=by
 intro w s b a hb hf;cases b<;>cases a;all_goals
  (first|go_enter func287,ntmps287|go_enter func292,ntmps292|go_enter func309,ntmps309|go_enter func277,ntmps277)
  go_wp2;go_end0;exact⟨R,R⟩):p:=x
abbrev MustSL(T:TypeId)(f:FuncId):Prop:=∀(w:World),∀(a:Bool),∀{s mb g:Nat}{c:Ch}{E:St},SW T w s mb g c E->Z f #[(s,0),.bool a] w λe w'=>
  e=.returned (.tuple #[])/\SW T w' s mb g c (must a E)/\Fr s mb g w w'
theorem spfMustS{p:Prop}(x:p:=by
 intro w a s mb g c E h;exact(mu w s E.bad a (h.cell 24) (h.frz 24)).mono λ_ _ ⟨he,hw⟩=>⟨he,hw ▸ h.pBad _,hw ▸ Fr.set (Rws.refl _ _) _ _⟩):p:=x
abbrev ToL(T:TypeId)(f:FuncId):Prop:=∀(w:World),∀(x:Int),∀{s mb g:Nat}{c:Ch}{E:St},SW T w s mb g c E->Z f #[(s,0),I x] w λe w'=>
  e=.returned (.tuple #[])/\SW T w' s mb g c (E.sPc x)/\Fr s mb g w w'
theorem spfTo{p:Prop}(x:p:=by
 intro w x s mb g c E h;have k9:w.cell? (s,9)=I E.t.pc:=h.cell 9;have f9:=h.frz 9;have HS:=XAA h;clear h;(first|go_enter func281,ntmps281|go_enter func296,ntmps296|go_enter func310,ntmps310|go_enter func276,ntmps276);go_wp2;go_end0;exact⟨R,HS.out.pPc _,Fr.set (Rws.refl _ _) _ _⟩):p:=x
abbrev BehindL(f:FuncId):Prop:=∀(w:World),∀(a:Int),a<1000000->Z f #[I a] w λe w'=>e=.returned (I (bh a))/\w'=w
theorem spfBehind{p:Prop}(x:p:=by
 intro w a h;by_cases h0:a<0
 .rw [show bh a=a from XAE h0];(first|go_enter func279,ntmps279|go_enter func294,ntmps294|go_enter func311,ntmps311|go_enter func321,ntmps321);go_wp2;go_ret;exact⟨R,R⟩
 .rw [show bh a=a+1 from XAD h0];have hw:IntKind.i64.wrap (a+1)=a+1:=XAM _ qd;(first|go_enter func279,ntmps279|go_enter func294,ntmps294|go_enter func311,ntmps311|go_enter func321,ntmps321);go_wp2;go_ret;exact⟨R,R⟩):p:=x
abbrev LoadL(T:TypeId)(f:FuncId):Prop:=∀(w:World),∀{s mb g:Nat}{c:Ch}{E:St},SW T w s mb g c E->E.n<=1000000->∀(a:Int),Z f #[(s,0),I a] w λe w'=>
  e=.returned (J ((loadS a E).1:Int))/\SW T w' s mb g c (loadS a E).2/\Fr s mb g w w'
theorem spfLoad{p:Prop}(x:p:=by
 intro w s mb g c E h hn a;have hl:=h.c.words_le;have hlen:=h.len;have hlt:=h.lt;have c0:w.cell? (s,0)=some (.pointer (mb,0)):=h.cell 0;have c24:w.cell? (s,24)=some (.bool E.bad):=h.cell 24;have f24:=h.frz 24;have HS:=XAA h;cases hi:inB a 1 E
 .rw [show loadS a E=(0,{ E with bad:=E.bad||true }) by unfold loadS;rw [hi];rfl];have hi':a<0\/(c.words:Int)<=a:=by
   have:=XEY hi;omega
  clear h hi hlen;(first|go_enter func278,ntmps278|go_enter func291,ntmps291|go_enter func308,ntmps308|go_enter func320,ntmps320);go_wp2_with (first|(go_at_call 333;refine(load_err _ mb g E.ws E.n c.words HS.out.mem (XAA HS.out.len) hl a hi').mono ?_;rintro e w1 ⟨rfl,hM1,hT1⟩;have h1:=HS.out.two hT1 hM1 R HS.out.u;have e24:w1.cell? (s,24)=some (.bool E.bad):=h1.cell 24;have g24:=h1.frz 24)|((first|go_at_call 287|go_at_call 292|go_at_call 309|go_at_call 277);(with_reducible refine(mu _ s E.bad false e24 g24).mono ?_);rintro e w2 ⟨rfl,hw2⟩;subst hw2));go_ret;exact⟨R,(h1.pBad _).eq qha,(Fr.of_two hT1).set _ _⟩
 .have hi':0<=a/\a<c.words:=by
   have:=XBY hi;omega
  rw [show loadS a E=(wd a E,{ E with bad:=E.bad||false,n:=E.n+1 }) by unfold loadS;rw [hi];rfl];obtain⟨i,rfl⟩:=XAb hi'.1;obtain⟨x,hx⟩:=Xq (wd (i:Int) E);have hx':E.ws[i]? =some x:=by
   have hlt:i<E.ws.length:=by omega
   rw [XAO hlt,<-hx];unfold wd;rw [XBA,XBQ,XAO hlt];rfl
  rw [hx];have HX:=XAA hx';have hic:i<c.words:=by omega
  clear h hi hlen hx hx';(first|go_enter func278,ntmps278|go_enter func291,ntmps291|go_enter func308,ntmps308|go_enter func320,ntmps320);go_wp2_with (first|(go_at_call 333;refine(load_ok _ mb g E.ws E.n c.words HS.out.mem (XAA HS.out.len) hl hn i x hic HX).mono ?_;rintro e w1 ⟨rfl,hM1,hT1⟩;have h1:=HS.out.two hT1 hM1 R HS.out.u;have e24:w1.cell? (s,24)=some (.bool E.bad):=h1.cell 24;have g24:=h1.frz 24)|((first|go_at_call 287|go_at_call 292|go_at_call 309|go_at_call 277);(with_reducible refine(mu _ s E.bad true e24 g24).mono ?_);rintro e w2 ⟨rfl,hw2⟩;subst hw2));go_ret;exact⟨R,(h1.pBad _).eq qha,(Fr.of_two hT1).set _ _⟩):p:=x
abbrev StoreL(T:TypeId)(f:FuncId):Prop:=∀(w:World),∀{s mb g:Nat}{c:Ch}{E:St},SW T w s mb g c E->E.n<=1000000->∀(a:Int),∀(v:Nat),v<U64->Z f #[(s,0),I a,J v] w λe w'=>
  e=.returned (.tuple #[])/\SW T w' s mb g c (storeS a v E)/\Fr s mb g w w'
theorem spfStore{p:Prop}(x:p:=by
 intro w s mb g c E h hn a v hv;have hl:=h.c.words_le;have hlen:=h.len;have hlt:=h.lt;have c0:w.cell? (s,0)=some (.pointer (mb,0)):=h.cell 0;have HS:=XAA h;cases hi:inB a 1 E
 .rw [show storeS a v E= { E with bad:=E.bad||true } by unfold storeS;rw [hi];rfl];have hi':a<0\/(c.words:Int)<=a:=by
   have:=XEY hi;omega
  clear h hi hlen;(first|go_enter func288,ntmps288|go_enter func304,ntmps304|go_enter func313,ntmps313|go_enter func326,ntmps326);go_wp2_with (first|(go_at_call 338;refine(store_err _ mb g E.ws E.n c.words HS.out.mem (XAA HS.out.len) hl a hi' v).mono ?_;rintro e w1 ⟨rfl,hM1,hT1⟩;have h1:=HS.out.two hT1 hM1 R HS.out.u;have e24:w1.cell? (s,24)=some (.bool E.bad):=h1.cell 24;have g24:=h1.frz 24)|((first|go_at_call 287|go_at_call 292|go_at_call 309|go_at_call 277);(with_reducible refine(mu _ s E.bad false e24 g24).mono ?_);rintro e w2 ⟨rfl,hw2⟩;subst hw2));go_end0;exact⟨R,(h1.pBad _).eq qha,(Fr.of_two hT1).set _ _⟩
 .have hi':0<=a/\a<c.words:=by
   have:=XBY hi;omega
  rw [show storeS a v E= { E with bad:=E.bad||false,ws:=E.ws.set a.toNat v,n:=E.n+1 } by unfold storeS;rw [hi];rfl];obtain⟨i,rfl⟩:=XAb hi'.1;rw [XBQ];obtain⟨x,hx⟩:∃x,E.ws[i]? =some x:=⟨_,XAO qd⟩;have HX:=XAA hx;have hic:i<c.words:=by omega
  have HV:=XAA hv;clear h hi hlen hx hv;(first|go_enter func288,ntmps288|go_enter func304,ntmps304|go_enter func313,ntmps313|go_enter func326,ntmps326);go_wp2_with (first|(go_at_call 338;refine(store_ok _ mb g E.ws E.n c.words HS.out.mem (XAA HS.out.len) hl hn i x hic HX v).mono ?_;rintro e w1 ⟨rfl,hM1,hT1⟩;have h1:=HS.out.two hT1 hM1 (XAk ..) (set_u HS.out.u i HV.out);have e24:w1.cell? (s,24)=some (.bool E.bad):=h1.cell 24;have g24:=h1.frz 24)|((first|go_at_call 287|go_at_call 292|go_at_call 309|go_at_call 277);(with_reducible refine(mu _ s E.bad true e24 g24).mono ?_);rintro e w2 ⟨rfl,hw2⟩;subst hw2));go_end0;exact⟨R,(h1.pBad _).eq qha,(Fr.of_two hT1).set _ _⟩):p:=x
abbrev Cas2L(T:TypeId)(f:FuncId):Prop:=∀(w:World),∀{s mb g:Nat}{c:Ch}{E:St},SW T w s mb g c E->E.n<=1000000->∀(a:Int),∀(o p v v2:Nat),v<U64->v2<U64->Z f #[(s,0),I a,J o,J p,J v,J v2] w λe w'=>
  e=.returned (.bool (cas2S a o p v v2 E).1)/\SW T w' s mb g c (cas2S a o p v v2 E).2/\Fr s mb g w w'
theorem spfCas2{p:Prop}(x:p:=by
 intro w s mb g c E h hn a o p v v2 hv hv2;have hl:=h.c.words_le;have hlen:=h.len;have hlt:=h.lt;have c0:w.cell? (s,0)=some (.pointer (mb,0)):=h.cell 0;have HS:=XAA h;cases hi:inB a 2 E
 .rw [show cas2S a o p v v2 E=(false,{ E with bad:=E.bad||true }) by unfold cas2S hit2;rw [hi];rfl];have hi':a<0\/(c.words:Int)<=a+1:=by
   have:=XEY hi;omega
  clear h hi hlen;(first|go_enter func337,ntmps337|go_enter func290,ntmps290|go_enter func319,ntmps319|go_enter func324,ntmps324);go_wp2_with (first|(go_at_call 339;refine(cas2_err _ mb g E.ws E.n c.words HS.out.mem (XAA HS.out.len) hl a hi' o p v v2).mono ?_;rintro e w1 ⟨rfl,hM1,hT1⟩;have h1:=HS.out.two hT1 hM1 R HS.out.u;have e24:w1.cell? (s,24)=some (.bool E.bad):=h1.cell 24;have g24:=h1.frz 24)|((first|go_at_call 287|go_at_call 292|go_at_call 309|go_at_call 277);(with_reducible refine(mu _ s E.bad false e24 g24).mono ?_);rintro e w2 ⟨rfl,hw2⟩;subst hw2));go_ret;exact⟨R,(h1.pBad _).eq qha,(Fr.of_two hT1).set _ _⟩
 .have hi':0<=a/\a+1<c.words:=by
   have:=XBY hi;omega
  obtain⟨i,rfl⟩:=XAb hi'.1;have hw1:∀j:Nat,j<c.words->E.ws[j]? =some (wd (j:Int) E):=by
   intro j hj;have hlt:j<E.ws.length:=by omega
   unfold wd;rw [XAO hlt,XBA,XBQ,XAO hlt];rfl
  have HX:=XAA (hw1 i qd);have HY:Hid (E.ws[i+1]? =some (wd ((i:Int)+1) E)):=XAA (hw1 (i+1) qd);obtain⟨x,hx⟩:=Xq (wd (i:Int) E);obtain⟨y,hy⟩:=Xq (wd ((i:Int)+1) E);have hic:i+1<c.words:=by omega
  have HV:=XAA hv;have HV2:=XAA hv2;rw [hx] at HX;rw [hy] at HY;by_cases hq:x=o/\y=p
  .rw [show cas2S (i:Int) o p v v2 E=(true,{ E with bad:=E.bad||false,ws:=(E.ws.set i v).set (i+1) v2,n:=E.n+1 }) by unfold cas2S hit2;rw [hi,hx,hy,XAR hq];rfl];have hq':(x:Int)=(o:Int)/\(y:Int)=(p:Int):=⟨by rw [hq.1],by rw [hq.2]⟩;clear h hi hlen hw1 hq hx hy hv hv2;(first|go_enter func337,ntmps337|go_enter func290,ntmps290|go_enter func319,ntmps319|go_enter func324,ntmps324);go_wp2_with (first|(go_at_call 339;refine(cas2_yes _ mb g E.ws E.n c.words HS.out.mem (XAA HS.out.len) hl hn i x y hic HX HY o p v v2 hq').mono ?_;rintro e w1 ⟨rfl,hM1,hT1⟩;have h1:=HS.out.two hT1 hM1 ((XAk ..).trans (XAk ..)) (set_u (set_u HS.out.u i HV.out) (i+1) HV2.out);have e24:w1.cell? (s,24)=some (.bool E.bad):=h1.cell 24;have g24:=h1.frz 24)|((first|go_at_call 287|go_at_call 292|go_at_call 309|go_at_call 277);(with_reducible refine(mu _ s E.bad true e24 g24).mono ?_);rintro e w2 ⟨rfl,hw2⟩;subst hw2));go_ret;exact⟨R,(h1.pBad _).eq qha,(Fr.of_two hT1).set _ _⟩
  .rw [show cas2S (i:Int) o p v v2 E=(false,{ E with bad:=E.bad||false,n:=E.n+1 }) by unfold cas2S hit2;rw [hi,hx,hy,XAS hq];rfl];have hq':¬((x:Int)=(o:Int)/\(y:Int)=(p:Int)):=by omega
   clear h hi hlen hw1 hq hx hy hv hv2;(first|go_enter func337,ntmps337|go_enter func290,ntmps290|go_enter func319,ntmps319|go_enter func324,ntmps324);go_wp2_with (first|(go_at_call 339;refine(cas2_no _ mb g E.ws E.n c.words HS.out.mem (XAA HS.out.len) hl hn i x y hic HX HY o p v v2 hq').mono ?_;rintro e w1 ⟨rfl,hM1,hT1⟩;have h1:=HS.out.two hT1 hM1 R HS.out.u;have e24:w1.cell? (s,24)=some (.bool E.bad):=h1.cell 24;have g24:=h1.frz 24)|((first|go_at_call 287|go_at_call 292|go_at_call 309|go_at_call 277);(with_reducible refine(mu _ s E.bad true e24 g24).mono ?_);rintro e w2 ⟨rfl,hw2⟩;subst hw2));go_ret;exact⟨R,(h1.pBad _).eq qha,(Fr.of_two hT1).set _ _⟩):p:=x
abbrev FsW(w:World)(s mb g:Nat)(c:Ch)(E:St):Prop:=SW 311 w s mb g c E
theorem fsMust:MustL 287:=spfMust
theorem fsMustS:MustSL 311 287:=have mu:=fsMust
 spfMustS
theorem fsTo:ToL 311 281:=spfTo
theorem fsBehind:BehindL 279:=spfBehind
theorem fsLoad:LoadL 311 278:=have mu:=fsMust
 spfLoad
theorem fsStore:StoreL 311 288:=have mu:=fsMust
 spfStore
theorem fsCas2:Cas2L 311 337:=have mu:=fsMust
 spfCas2
abbrev FlW(w:World)(s mb g:Nat)(c:Ch)(E:St):Prop:=SW 314 w s mb g c E
theorem flMust:MustL 292:=spfMust
theorem flMustS:MustSL 314 292:=have mu:=flMust
 spfMustS
theorem flTo:ToL 314 296:=spfTo
theorem flBehind:BehindL 294:=spfBehind
theorem flLoad:LoadL 314 291:=have mu:=flMust
 spfLoad
theorem flStore:StoreL 314 304:=have mu:=flMust
 spfStore
theorem flCas2:Cas2L 314 290:=have mu:=flMust
 spfCas2
abbrev BkW(w:World)(s mb g:Nat)(c:Ch)(E:St):Prop:=SW 318 w s mb g c E
theorem bkMust:MustL 309:=spfMust
theorem bkMustS:MustSL 318 309:=have mu:=bkMust
 spfMustS
theorem bkTo:ToL 318 310:=spfTo
theorem bkBehind:BehindL 311:=spfBehind
theorem bkLoad:LoadL 318 308:=have mu:=bkMust
 spfLoad
theorem bkStore:StoreL 318 313:=have mu:=bkMust
 spfStore
theorem bkCas2:Cas2L 318 319:=have mu:=bkMust
 spfCas2
abbrev FuW(w:World)(s mb g:Nat)(c:Ch)(E:St):Prop:=SW 321 w s mb g c E
theorem fuMust:MustL 277:=spfMust
theorem fuMustS:MustSL 321 277:=have mu:=fuMust
 spfMustS
theorem fuTo:ToL 321 276:=spfTo
theorem fuBehind:BehindL 321:=spfBehind
theorem fuLoad:LoadL 321 320:=have mu:=fuMust
 spfLoad
theorem fuStore:StoreL 321 326:=have mu:=fuMust
 spfStore
theorem fuCas2:Cas2L 321 324:=have mu:=fuMust
 spfCas2
end Go.Proofs.YtedefgjfgdcfdaaGreatDoor
