/- Walks and laws for TopPages. -/
import Derived.Test.YtedefgjfgdcfdaaGreatDoorQ25
import Derived.Test.YtedefgjfgdcfdaaGreatDoorQ26
import Derived.Test.YtedefgjfgdcfdaaGreatDoorQ27
import Derived.Test.YtedefgjfgdcfdaaGreatDoorQ18
import Derived.Test.YtedefgjfgdcfdaaGreatDoorQ28
namespace Go.Proofs.YtedefgjfgdcfdaaGreatDoor
open Go.RowKit Go.Proofs.Tryz
set_option maxRecDepth 100000
set_option maxHeartbeats 4000000
structure Ac where
 ty:Nat
 K:Int
 A:Int
 B:Int
 C:Int
abbrev aF(x:Ac):Value:=.iface x.ty (.agg #[I x.K,I x.A,I x.B,I x.C])
structure Fm where
 next:Nat
 aM:Int
 busy:Bool
 av:Value
 acts:List Ac
 ai:Int
 aq:Int
 pK:Int
 pA:Int
 pB:Int
 pC:Int
 hv:Value
 hs:List Nat
 e:Int
def bf(f:Fm):List Value:= [nV f.next,I f.aM,.bool f.busy,f.av,I f.ai,I f.aq,I f.pK,I f.pA,I f.pB,I f.pC,f.hv,I f.e]
def dV(n:Nat):Fm:=⟨n,0,false,.slice none 0 0, [],0,0,0,0,0,0,.slice none 0 0, [],0⟩
structure Hn where
 ca:Nat
 sl:Int
 ob:Int
 gr:Int
 out:Bool
def cB(x:Hn):List Value:= [nV x.ca,I x.sl,I x.ob,I x.gr,.bool x.out]
structure Dd where
 c:Int
 o:Int
 f:Int
 t:Int
 e:Int
 hv:Value
 hs:List Nat
def f_(d:Dd):List Value:= [I d.c,I d.o,I d.f,I d.t,I d.e,d.hv]
structure Cc where
 cb:Nat
 sp:Sp
 refs:Int
 live:Bool
 waits:Int
 pg:Nat
 zp:Nat
 P:List Int
 ly:Lay
 wb:Nat
 mb:Nat
 g:Nat
 tm:Nat
 ch:Ch
 ws:List Nat
 n:Nat
 Q:Int->Option Tk
 q:Nat
def RG(x:Cc):Array Value:=#[I x.sp.s,I x.sp.a,I x.sp.f,I x.refs,.bool x.live,I x.waits,.slice (x.pg,0) 32 x.zp,I x.ly.sz,I x.ly.al,I x.ly.st,I x.ly.off,I x.ly.ord,I x.ly.aq,I x.ly.was,.pointer (x.wb,0)]
abbrev jo(x:Cc):Value:=.pointer (x.cb,0)
structure KA where
 kb:Nat
 tb:Nat
 ep:Nat
 d_:Nat
 pV:Nat
 ob:Nat
 om:Nat
 gb:Nat
 fb:Nat
 aK:Nat
 C:Nat
 ae:i_
 V:Nat->Value
 K:Nat->List Cl
 pv:Value
 gt:TypeId
structure KS where
 cl:Nat->Nat
 s:Nat
 tg:Nat
 tn:Nat
 jY:Nat
 G:Nat->Gp
 gr:Gr
 T:Tab
 L:Nat->List Nat
 F:Int->Option Int
 zq:Nat
 cv:Value
 cs:List Cc
 hv:Value
 hs:List Hn
 fr:Nat->Fm
 dv:Value
 ds:List Dd
 fly:Nat->Int
 now:Int
def kR(A:KA)(M:KS):Array Value:=#[nV A.C,nV A.ae.n,.slice (A.aK,0) A.C A.C,A.pv,.pointer (A.tb,0),.pointer (A.ep,0),.pointer (A.d_,0),.pointer (A.ob,0),
 I (M.fly 0),I (M.fly 1),I (M.fly 2),I (M.fly 3),I (M.fly 4),I (M.fly 5),I (M.fly 6),I (M.fly 7),I (M.fly 8),I (M.fly 9),I (M.fly 10),I (M.fly 11),I (M.fly 12),I (M.fly 13),I (M.fly 14),I (M.fly 15),I (M.fly 16),
 .pointer (A.ae.zb,0),.pointer (A.gb,0),M.cv,M.hv,.slice (A.fb,0) A.C A.C,M.dv,I M.now,I 0,I (-1)]
structure Mv(js:List Nat)(cl aD:Nat->Nat)(w w':World):Prop where
 md:Md cl js w w'
 cls:∀k,k<w.heap.size->cl k≠0->aD k=cl k
 new:∀k,w'.heap.size<=k->aD k=0
def iU(cl:Nat->Nat)(w w':World)(j:Nat):Nat->Nat:=λk=>if k<w.heap.size then cl k else if k<w'.heap.size then j else 0
section
variable{cl aD:Nat->Nat}{w w':World}{js:List Nat}{c e size n j:Nat}{v:Value}{xs:List Value}
theorem lX{k:Nat}(h:k<w.heap.size):iU cl w w' j k=cl k:=XAE h
theorem wV{k:Nat}(h:w.heap.size<=k)(h':k<w'.heap.size):iU cl w w' j k=j:=by unfold iU;rw [XAD qd,XAE h']
theorem ab2{k:Nat}(h:w'.heap.size<=k)(hs:w.heap.size<=w'.heap.size):iU cl w w' j k=0:=by unfold iU;rw [XAD qd,XAD qd]
theorem LY{k:Nat}(h:k<w'.heap.size):iU cl w w' j k=ext cl w j k:=by
 rcases XAc k w.heap.size with h1|h1
 .rw [lX h1,dG h1]
 .rw [wV h1 h,mA h1]
theorem Mv.up(hm:Md cl js w w')(j:Nat):Mv js cl (iU cl w w' j) w w':=⟨hm,λ_ h _=>lX h,λ_ h=>ab2 h hm.size⟩
theorem Mv.same(hm:Md cl js w w')(hn:∀k,w.heap.size<=k->cl k=0):Mv js cl cl w w':=⟨hm,λ_ _ _=>rfl,λk h=>hn k (XAL hm.size h)⟩
theorem Mv.blk(m:Mv js cl aD w w'){k:Nat}{t:TypeId}{cs:Array Value}(hb:ak w k t cs)(hk:cl k∉js):ak w' k t cs:=m.md.blk hb hk
theorem Mv.at_(m:Mv js cl aD w w'){k:Nat}(hl:k<w.heap.size)(h0:cl k=c)(hc:c≠0):aD k=c:=(m.cls k hl (by rw [h0];exact hc)).trans h0
theorem Own.mv(h:Own cl c w e size v n xs)(m:Mv js cl aD w w')(hc:c∉js)(h0:c≠0):Own aD c w' e size v n xs:=
 ⟨(h.md m.md hc).1,λg hg=>⟨((h.md m.md hc).2 g hg).1,m.at_ (h.2 g hg).1 (h.2 g hg).2 h0⟩⟩
def ie(cl:Nat->Nat)(c:Nat)(w:World)(v:Value)(xs:List Value):Prop:=
 ∃A cap,v=.slice A xs.length cap/\xs.length<=cap/\Row w A xs/\(0<xs.length->∀g off,A=some ⟨g,off,none⟩->cl g=c)
theorem Row.md{A:Option Addr}(h:Row w A xs)(hm:Md cl js w w')(hc:0<xs.length->∀g off,A=some ⟨g,off,none⟩->cl g∉js):Row w' A xs:=λhp=>by
 obtain⟨g,off,e,hl,hx⟩:=h hp;exact⟨g,off,e,XAH hl hm.size,λj u hu=>(XAP (w:=w) (a:=⟨g,off+j,none⟩) (hm.block g hl (hc hp g off e))).trans (hx j u hu)⟩
theorem ie.mv(h:ie cl c w v xs)(m:Mv js cl aD w w')(hc:c∉js)(h0:c≠0):ie aD c w' v xs:=by
 obtain⟨A,cap,rfl,hn,hr,hk⟩:=h;refine⟨A,cap,R,hn,Row.md hr m.md λhp g off e=>by rw [hk hp g off e];exact hc,λhp g off e=>?_⟩;obtain⟨g',off',e',hl,-⟩:=hr hp;rw [e] at e';obtain⟨rfl,-⟩:g=g'/\off=off':=by injection e' with e';injection e' with a b _;exact⟨a,b⟩
 exact m.at_ hl (hk hp g off e) h0
theorem ie.nil(cl:Nat->Nat)(c:Nat)(w:World):ie cl c w (.slice none 0 0) []:=⟨none,0,R,XAB _,Row.nil _ _,λh=>absurd h (XDP 0)⟩
theorem cI.mv{b lb C:Nat}{L:Nat->List Nat}{V:Nat->Value}(h:cI cl c w b lb C L V)(m:Mv js cl aD w w')(hc:c∉js)(h0:c≠0):cI aD c w' b lb C L V:=
 ⟨m.blk h.blk qjm,m.md.row h.row (by rw [h.aK];exact hc),λi hi=>(h.own i hi).mv m hc h0,h.apart,h.len,h.c1,h.c8,m.at_ h.blk.lt h.cb h0,m.at_ h.row.lt h.aK h0⟩
theorem aR.mv{A:i_}{T:Tab}{L:Nat->List Nat}{F:Int->Option Int}{q:Nat}(h:aR cl w A T L F q)(m:Mv js cl aD w w')(h1:61∉js)(h2:62∉js)(h3:63∉js)(h4:64∉js):aR aD w' A T L F q:=
 ⟨m.blk h.blk (by rw [h.cz];exact h1),h.bd.md m.md (by rw [h.cb];exact h1) (by rw [h.cg];exact h4),h.nr.imp λ_ x=>x.mv m h2 qf,h.mp.heap (m.md.block _ h.mp.lt (by rw [h.cc];exact h3)),h.all,
  m.at_ h.blk.lt h.cz qf,m.at_ h.bd.blk.lt h.cb qf,m.at_ (aG.lt h.bd.row) h.cg qf,m.at_ h.mp.lt h.cc qf,h.qb⟩
theorem bA.mv{b g n cap:Nat}{G:Nat->Gp}(h:bA cl c w b g n cap G)(m:Mv js cl aD w w')(hc:c∉js)(h0:c≠0):bA aD c w' b g n cap G:=
 ⟨m.blk h.blk qjm,h.own.mv m hc h0,m.at_ h.blk.lt h.cb h0,h.ok⟩
def jv(cl:Nat->Nat)(w:World)(b:Nat)(G:Gr):Prop:=cl b=6/\Inv G/\∃gs,aN w b gs G/\∀k,k<w.heap.size->cl k≠7->k∈gs
theorem ed.gs{gs gs':List Nat}{A:Option Addr}{m cap:Nat}{l:List Wt}(h:ed w gs A m cap l)(hm:Md cl js w w')(h1:∀k,k<w.heap.size->k∉gs->cl k∉js)(h2:∀k,k<w.heap.size->k∈gs'->k∈gs):ed w' gs' A m cap l:=by
 have hlt:0<m->∀g off,A=some ⟨g,off,none⟩->g<w.heap.size:=λhp g off e=>by obtain⟨g',off',e',hl,-⟩:=h.row (by rw [lU,h.len];omega);rw [e] at e';injection e' with e';injection e' with a b _;omega
 refine⟨h.len,h.cap,Row.md h.row hm λhp g off e=>?_,λhp g off e hg=>h.ne hp g off e (h2 g (hlt hp g off e) hg)⟩;have hp':0<m:=by rw [lU,h.len] at hp;omega
 exact h1 g (hlt hp' g off e) (h.ne hp' g off e)
theorem jv.of{gs:List Nat}{b:Nat}{G:Gr}(hI:Inv G)(h:aN w b gs G)(hc:cl b=6)(hg:∀k,k<w.heap.size->cl k≠7->k∈gs):jv cl w b G:=⟨hc,hI,gs,h,hg⟩
theorem jv.mv{b:Nat}{G:Gr}(h:jv cl w b G)(m:Mv js cl aD w w')(h6:6∉js)(h7:7∉js):jv aD w' b G:=by
 obtain⟨hc,hI,gs,hg,hgs⟩:=h;have hlt:=hg.lt;have hlts:=hg.bj;have hmem:=hg.mem;obtain⟨-,-,cs,hB,hC⟩:=hg;refine⟨m.at_ hlt hc qf,hI,(List.range w'.heap.size).filter (λk=>decide (k∈gs\/w.heap.size<=k)),⟨?_,λk hk=>by simp at hk;exact hk.1,cs,m.blk hB (by rw [hc];exact h6),?_⟩,λk hk h=>?_⟩
 .simp;exact⟨XAH hlt m.md.size,.inl hmem⟩
 .refine⟨hC.size,hC.iN,hC.deep,λk hk=>?_,hC.ended,hC.going,hC.needs⟩;obtain⟨v,hv,hr⟩:=hC.rows k hk;refine⟨v,hv,?_⟩;rcases hr with hr|⟨A,n,c,e,hr⟩
  .exact .inl hr
  .refine .inr ⟨A,n,c,e,hr.gs m.md (λk hk hn=>?_) λk hk hn=>?_⟩
   .rcases Classical.em (cl k=7) with h'|h'
    .rw [h'];exact h7
    .exact absurd (hgs k hk h') hn
   .simp at hn;rcases hn.2 with h'|h'
    .exact h'
    .omega
 .simp;refine⟨hk,?_⟩;rcases XAc k w.heap.size with hl|hl
  .left;refine hgs k hl λe=>h ((m.cls k hl (by rw [e];decide)).trans e)
  .exact .inr hl
end
def dn(nc nh tn:Nat)(G:Nat->Gp)(a:Ac):Prop:=
 (a.ty=157/\(a.K=1\/a.K=2->1<=a.A/\a.A<=tn)/\(a.K=2->0<=a.C/\a.C<(c_ G (cf tn a.A)).length)/\(a.K=7->0<=a.A/\a.A<=16))\/
 (a.ty=173/\0<=a.B/\a.B<nc)\/(a.ty=176/\0<=a.A/\(a.K=5->a.A<nh)/\(a.K≠5->a.A<nc))
structure jz(A:KA)(M:KS):Prop where
 c1:1<=A.C
 c8:A.C<=8
 zC:A.ae.C=A.C
 gP:M.gr.C=A.C
 ag:M.gr.ag<=30*M.s
 zq:M.zq<=M.s
 cs:M.cs.length<=8
 hs:M.hs.length<=30*M.s
 ds:M.ds.length<=30*M.s
 hc:∀x∈M.hs,x.ca<M.cs.length
 ac:∀i,i<A.C->∀a∈(M.fr i).acts,dn M.cs.length M.hs.length M.tn M.G a
 al:∀i,i<A.C->(M.fr i).acts.length<=30*M.s
 fh:∀i,i<A.C->∀h∈(M.fr i).hs,h<M.hs.length
 fl:∀i,i<A.C->(M.fr i).hs.length<=30*M.s
 bu:∀i,i<A.C->(M.fr i).busy=true->(M.fr i).next<(A.K i).length
 kl:∀i,i<A.C->(A.K i).length<=64
 ko:∀i,i<A.C->∀x∈A.K i,j7 x
 gi:∀k,∀x∈M.gr.L k,0<=x.id/\x.id<=9007199254740991/\x.id % 16<M.cs.length
structure j6(cl:Nat->Nat)(w:World)(C i s:Nat)(x:Cc):Prop where
 blk:ak w x.cb 195 (RG x)
 pg:aG w x.pg 3 (x.P.map (Value.int .i64))
 pl:x.P.length=32
 pk:∀p∈x.P,-1<=p/\p<=1023
 cr:aP w x.wb x.mb x.g x.tm x.ch x.ws x.n x.Q x.q
 cC:x.ch.C=C
 od:0<=x.ly.ord/\x.ly.ord<=10
 qs:x.q<=s
 ns:x.n<=3*s
 c0:cl x.cb=100+10*i
 c1:cl x.pg=100+10*i+1
 c2:cl x.wb=100+10*i+2
 c3:cl x.mb=100+10*i+3
 c4:cl x.g=100+10*i+4
 c5:cl x.tm=100+10*i+5
def ou(cl:Nat->Nat)(w:World)(t:TypeId):Prop:=ak w 0 t il/\cl 0=99
def oL(cl:Nat->Nat)(w:World)(b:Nat)(cs:Array Value):Prop:=ak w b 58 cs/\cl b=1
def mU(cl:Nat->Nat)(w:World)(b:Nat):Prop:=(∃U X,aV w b U X/\Fine U X)/\cl b=3
def m9(cl:Nat->Nat)(w:World)(b g C:Nat):Prop:=(∃X,eo w b g C X)/\cl b=4/\cl g=4
def kn(cl:Nat->Nat)(w:World)(b m s:Nat):Prop:=(∃n F,n<=s/\OwnAt w b m 256 16 n F)/\cl b=5/\cl m=5
def l_(cl:Nat->Nat)(w:World)(C s:Nat)(cv:Value)(cs:List Cc):Prop:=Own cl 8 w 196 1 cv cs.length (cs.map jo)/\∀i x,cs[i]? =some x->j6 cl w C i s x
def rv(cl:Nat->Nat)(w:World)(hv:Value)(hs:List Hn):Prop:=Own cl 9 w 68 5 hv hs.length (hs.flatMap cB)
def mV(cl:Nat->Nat)(w:World)(b C:Nat)(fr:Nat->Fm):Prop:=aG w b 159 (bM C λi=>bf (fr i))/\cl b=10
def gF(cl:Nat->Nat)(w:World)(i:Nat)(f:Fm):Prop:=ie cl (50+i) w f.av (f.acts.map aF)/\Own cl (40+i) w 3 1 f.hv f.hs.length (f.hs.map nV)
def xg(cl:Nat->Nat)(w:World)(dv:Value)(ds:List Dd):Prop:=Own cl 11 w 107 6 dv ds.length (ds.flatMap f_)/\∀d∈ds,Own cl 20 w 3 1 d.hv d.hs.length (d.hs.map nV)
def rA(cl:Nat->Nat)(w:World)(A:KA):Prop:=aG w A.aK 64 ((List.range A.C).map A.V)/\cl A.aK=20/\∀i,i<A.C->Own cl 20 w 63 4 (A.V i) (A.K i).length ((A.K i).flatMap dT)
structure KM(A:KA)(w:World)(M:KS):Prop where
 gn:ou M.cl w A.gt
 k:oL M.cl w A.kb (kR A M)
 tr:bA M.cl 2 w A.tb M.tg M.tn M.jY M.G
 ch:mU M.cl w A.ep
 st:m9 M.cl w A.d_ A.pV A.C
 ow:kn M.cl w A.ob A.om M.s
 zn:aR M.cl w A.ae M.T M.L M.F M.zq
 gr:jv M.cl w A.gb M.gr
 cs:l_ M.cl w A.C M.s M.cv M.cs
 hs:rv M.cl w M.hv M.hs
 fr:mV M.cl w A.fb A.C M.fr
 fa:∀i,i<A.C->gF M.cl w i (M.fr i)
 ds:xg M.cl w M.dv M.ds
 sc:rA M.cl w A
 new:∀k,w.heap.size<=k->M.cl k=0
 ok:jz A M
section
variable{A:KA}{M:KS}{cl aD:Nat->Nat}{w w':World}{js:List Nat}{b g C i s m:Nat}
theorem ou.mv{t:TypeId}(h:ou cl w t)(m:Mv js cl aD w w')(d:99∉js):ou aD w' t:=⟨m.blk h.1 (by rw [h.2];exact d),m.at_ h.1.lt h.2 qf⟩
theorem oL.mv{cs:Array Value}(h:oL cl w b cs)(m:Mv js cl aD w w')(d:1∉js):oL aD w' b cs:=⟨m.blk h.1 (by rw [h.2];exact d),m.at_ h.1.lt h.2 qf⟩
theorem mU.mv(h:mU cl w b)(m:Mv js cl aD w w')(d:3∉js):mU aD w' b:=by
 obtain⟨⟨U,X,⟨cs,hb,hc⟩,hf⟩,h0⟩:=h;exact⟨⟨U,X,⟨cs,m.blk hb qjg,hc⟩,hf⟩,m.at_ hb.lt h0 qf⟩
theorem m9.mv(h:m9 cl w b g C)(m:Mv js cl aD w w')(d:4∉js):m9 aD w' b g C:=by
 obtain⟨⟨X,hx⟩,h0,h1⟩:=h;exact⟨⟨X,hx.heap (m.md.block _ hx.blk.lt qjg) (m.md.block _ hx.row.lt (by rw [h1];exact d))⟩,m.at_ hx.blk.lt h0 qf,m.at_ hx.row.lt h1 qf⟩
theorem kn.mv{mm:Nat}(h:kn cl w b mm s)(m:Mv js cl aD w w')(d:5∉js):kn aD w' b mm s:=by
 obtain⟨⟨n,F,hn,hx⟩,h0,h1⟩:=h;exact⟨⟨n,F,hn,⟨m.blk hx.blk qjg,hx.map.heap (m.md.block _ hx.map.lt (by rw [h1];exact d)),hx.s1,hx.s2,hx.o1,hx.o2,hx.lK⟩⟩,m.at_ hx.blk.lt h0 qf,m.at_ hx.map.lt h1 qf⟩
theorem kn.more{mm s':Nat}(h:kn cl w b mm s)(hs:s<=s'):kn cl w b mm s':=by
 obtain⟨⟨n,F,hn,hx⟩,h0,h1⟩:=h;exact⟨⟨n,F,qd,hx⟩,h0,h1⟩
theorem aP.mv{mb g tm n q:Nat}{c:Ch}{ws:List Nat}{Q:Int->Option Tk}(h:aP w b mb g tm c ws n Q q)(m:Mv js cl aD w w')(h1:cl b∉js)(h2:cl mb∉js)(h3:cl g∉js)(h4:cl tm∉js):aP w' b mb g tm c ws n Q q:=by
 obtain⟨l1,l2,l3,l4⟩:=h.bj;have e:Rws ((List.range w.heap.size).filter λk=>decide (cl k∈js)) w w':=⟨m.md.os,m.md.tape,m.md.output,m.md.size,λk hk hn=>m.md.block k hk λhj=>hn (by simp;exact⟨hk,hj⟩)⟩;exact h.keep e (by simp [h1]) (by simp [h2]) (by simp [h3]) (by simp [h4])
theorem j6.mv{x:Cc}(h:j6 cl w C i s x)(m:Mv js cl aD w w')(d:∀k,k<6->100+10*i+k∉js):j6 aD w' C i s x:=by
 have d0:=d 0 qf;have d1:=d 1 qf;have d2:=d 2 qf;have d3:=d 3 qf;have d4:=d 4 qf;have d5:=d 5 qf;obtain⟨l1,l2,l3,l4⟩:=h.cr.bj;exact⟨m.blk h.blk (by rw [h.c0];exact d0),m.md.row h.pg (by rw [h.c1];exact d1),h.pl,h.pk,h.cr.mv m (by rw [h.c2];exact d2) (by rw [h.c3];exact d3) (by rw [h.c4];exact d4) (by rw [h.c5];exact d5),h.cC,h.od,h.qs,h.ns,
  m.at_ h.blk.lt h.c0 qd,m.at_ h.pg.lt h.c1 qd,m.at_ l1 h.c2 qd,m.at_ l2 h.c3 qd,m.at_ l3 h.c4 qd,m.at_ l4 h.c5 qd⟩
theorem j6.more{x:Cc}(h:j6 cl w C i s x){s':Nat}(hs:s<=s'):j6 cl w C i s' x:= { h with qs:=by have:=h.qs;omega,ns:=by have:=h.ns;omega }
theorem l_.mv{cv:Value}{cs:List Cc}(h:l_ cl w C s cv cs)(hl:cs.length<=8)(m:Mv js cl aD w w')(d:∀k,k∈js->k≠8/\(k<100\/180<=k)):l_ aD w' C s cv cs:=by
 refine⟨h.1.mv m (λhj=>(d _ hj).1 R) qf,λi x hx=>(h.2 i x hx).mv m λk hk hj=>?_⟩;have hi:i<cs.length:=by
  rcases XAc i cs.length with hi|hi
  .exact hi
  .rw [XAd hi] at hx;cases hx
 have:=(d _ hj).2;omega
theorem l_.more{cv:Value}{cs:List Cc}(h:l_ cl w C s cv cs){s':Nat}(hs:s<=s'):l_ cl w C s' cv cs:=⟨h.1,λi x hx=>(h.2 i x hx).more hs⟩
theorem rv.mv{hv:Value}{hs:List Hn}(h:rv cl w hv hs)(m:Mv js cl aD w w')(d:9∉js):rv aD w' hv hs:=Own.mv h m d qf
theorem mV.mv{fr:Nat->Fm}(h:mV cl w b C fr)(m:Mv js cl aD w w')(d:10∉js):mV aD w' b C fr:=⟨m.md.row h.1 (by rw [h.2];exact d),m.at_ h.1.lt h.2 qf⟩
theorem gF.mv{f:Fm}(h:gF cl w i f)(m:Mv js cl aD w w')(d:50+i∉js)(d':40+i∉js):gF aD w' i f:=⟨h.1.mv m d qd,h.2.mv m d' qd⟩
theorem xg.mv{dv:Value}{ds:List Dd}(h:xg cl w dv ds)(m:Mv js cl aD w w')(d:11∉js)(d':20∉js):xg aD w' dv ds:=⟨h.1.mv m d qf,λx hx=>(h.2 x hx).mv m d' qf⟩
theorem rA.mv(h:rA cl w A)(m:Mv js cl aD w w')(d:20∉js):rA aD w' A:=⟨m.md.row h.1 (by rw [h.2.1];exact d),m.at_ h.1.lt h.2.1 qf,λi hi=>(h.2.2 i hi).mv m d qf⟩
structure KF(X:List Nat)(cl aD:Nat->Nat)(w w':World):Prop where
 os:w'.os=w.os
 tape:w'.tape=w.tape
 output:w'.output=w.output
 size:w.heap.size<=w'.heap.size
 cls:∀k,k<w.heap.size->k∉X->cl k=0->aD k=0
 blk:∀k,k<w.heap.size->k∉X->cl k=0->w'.heap[k]? =w.heap[k]?
theorem KF.refl(X:List Nat)(cl:Nat->Nat)(w:World):KF X cl cl w w:=⟨R,R,R,XAB _,λ_ _ _ h=>h,λ_ _ _ _=>rfl⟩
theorem KF.trans{X:List Nat}{lD:Nat->Nat}{w2:World}(h:KF X cl aD w w')(h':KF X aD lD w' w2):KF X cl lD w w2:=
 ⟨h'.os.trans h.os,h'.tape.trans h.tape,h'.output.trans h.output,XAL h.size h'.size,λk hk hx h0=>h'.cls k (XAH hk h.size) hx (h.cls k hk hx h0),λk hk hx h0=>(h'.blk k (XAH hk h.size) hx (h.cls k hk hx h0)).trans (h.blk k hk hx h0)⟩
theorem KF.jZ{X X':List Nat}{lD:Nat->Nat}{w2:World}(h:KF X cl aD w w')(h':KF X' aD lD w' w2)(hx:∀k∈X',k<w.heap.size->k∈X):KF X cl lD w w2:=
 ⟨h'.os.trans h.os,h'.tape.trans h.tape,h'.output.trans h.output,XAL h.size h'.size,λk hk hn h0=>h'.cls k (XAH hk h.size) (λe=>hn (hx k e hk)) (h.cls k hk hn h0),λk hk hn h0=>(h'.blk k (XAH hk h.size) (λe=>hn (hx k e hk)) (h.cls k hk hn h0)).trans (h.blk k hk hn h0)⟩
theorem KF.then_{X:List Nat}{lD:Nat->Nat}{w2:World}(h:KF X cl aD w w')(h':KF [] aD lD w' w2):KF X cl lD w w2:=h.jZ h' λ_ h=>absurd h XBn
theorem KF.below(X:List Nat)(cl:Nat->Nat)(hb:Below w w w'):KF X cl cl w w':=⟨hb.os,hb.tape,hb.output,hb.size,λ_ _ _ h=>h,λk hk _ _=>hb.block k hk⟩
theorem KF.more{X X':List Nat}(h:KF X cl aD w w')(hx:∀k,k∈X->k∈X'):KF X' cl aD w w':=⟨h.os,h.tape,h.output,h.size,λk hk hn=>h.cls k hk λe=>hn (hx k e),λk hk hn=>h.blk k hk λe=>hn (hx k e)⟩
theorem KF.from_{X:List Nat}{w2:World}(h:KF X cl aD w' w2)(hb:Below w w w'):KF X cl aD w w2:=(KF.below X cl hb).trans h
theorem KF.keep{X:List Nat}(h:KF X cl aD w w'){k:Nat}{t:TypeId}{cs:Array Value}(hb:ak w k t cs)(h0:cl k=0)(hx:k∉X):ak w' k t cs/\aD k=0:=⟨(h.blk k hb.lt hx h0).trans hb,h.cls k hb.lt hx h0⟩
theorem KF.KE{X:List Nat}(h:∀j,j<w.heap.size->j∉X->cl j=0->aD j=0):KF X cl aD w w:=⟨R,R,R,XAB _,h,λ_ _ _ _=>rfl⟩
theorem KM.below(h:KM A w M)(hb:Below w w w'):KM A w' M:=by
 have m:Mv [] M.cl M.cl w w':=Mv.same (Md.of_below _ _ hb) h.new;exact⟨h.gn.mv m ql,h.k.mv m ql,h.tr.mv m ql qf,h.ch.mv m ql,h.st.mv m ql,h.ow.mv m ql,h.zn.mv m ql ql ql ql,h.gr.mv m ql ql,h.cs.mv h.ok.cs m ql,h.hs.mv m ql,h.fr.mv m ql,
  λi hi=>(h.fa i hi).mv m ql ql,h.ds.mv m ql ql,h.sc.mv m ql,m.new,h.ok⟩
theorem KM.alloc(h:KM A w M)(o:Obj):KM A (w.alloc o) M:=h.below ((XAC _ _).alloc (XAB _) _)
theorem KM.drew(h:KM A w M):KM A w.drew M:=h.below (XAC _ _).drew
theorem KM.far(h:KM A w M){p:Addr}(hp:M.cl p.block=0)(u:Value):KM A (w.setCell p u) M:=by
 have m:Mv [0] M.cl M.cl w (w.setCell p u):=⟨⟨R,R,R,qbt,λk hk hn=>XAN w p u k (λe=>hn (by rw [e,hp];simp))⟩,λ_ _ _=>rfl,λk hk=>h.new k (by simpa [World.setCell] using hk)⟩;exact⟨h.gn.mv m ql,h.k.mv m ql,h.tr.mv m ql qf,h.ch.mv m ql,h.st.mv m ql,h.ow.mv m ql,h.zn.mv m ql ql ql ql,h.gr.mv m ql ql,h.cs.mv h.ok.cs m ql,h.hs.mv m ql,h.fr.mv m ql,
  λi hi=>(h.fa i hi).mv m ql ql,h.ds.mv m ql ql,h.sc.mv m ql,m.new,h.ok⟩
theorem KM.only(h:KM A w M){r:Nat}(ho:Only r w w')(hr:M.cl r=0):KM A w' M:=by
 have m:Mv [0] M.cl M.cl w w':=⟨⟨ho.os,ho.tape,ho.output,XAs ho.size.symm,λk hk hn=>ho.block k (λe=>hn (by rw [e,hr];simp))⟩,λ_ _ _=>rfl,λk hk=>h.new k (by rw [ho.size] at hk;exact hk)⟩;exact⟨h.gn.mv m ql,h.k.mv m ql,h.tr.mv m ql qf,h.ch.mv m ql,h.st.mv m ql,h.ow.mv m ql,h.zn.mv m ql ql ql ql,h.gr.mv m ql ql,h.cs.mv h.ok.cs m ql,h.hs.mv m ql,h.fr.mv m ql,
  λi hi=>(h.fa i hi).mv m ql ql,h.ds.mv m ql ql,h.sc.mv m ql,m.new,h.ok⟩
theorem jz.more(h:jz A M){s':Nat}(hs:M.s<=s'):jz A { M with s:=s' } :=
 { h with ag:=by have:=h.ag;show M.gr.ag<=30*s';omega,zq:=by have:=h.zq;show M.zq<=s';omega,hs:=by have:=h.hs;show M.hs.length<=30*s';omega,ds:=by have:=h.ds;show M.ds.length<=30*s';omega,al:=λi hi=>by have:=h.al i hi;show(M.fr i).acts.length<=30*s';omega,fl:=λi hi=>by have:=h.fl i hi;show(M.fr i).hs.length<=30*s';omega }
theorem KM.more(h:KM A w M){s':Nat}(hs:M.s<=s'):KM A w { M with s:=s' } := { h with ow:=h.ow.more hs,cs:=h.cs.more hs,ok:=h.ok.more hs }
theorem KM.Li(h:KM A w M)(aD:Nat->Nat)(h1:∀k,k<w.heap.size->M.cl k≠0->aD k=M.cl k)(h2:∀k,w.heap.size<=k->aD k=0):KM A w { M with cl:=aD } :=by
 have m:Mv [] M.cl aD w w:=⟨Md.refl _ _ _,h1,h2⟩;exact⟨h.gn.mv m ql,h.k.mv m ql,h.tr.mv m ql qf,h.ch.mv m ql,h.st.mv m ql,h.ow.mv m ql,h.zn.mv m ql ql ql ql,h.gr.mv m ql ql,h.cs.mv h.ok.cs m ql,h.hs.mv m ql,h.fr.mv m ql,
  λi hi=>(h.fa i hi).mv m ql ql,h.ds.mv m ql ql,h.sc.mv m ql,m.new,⟨h.ok.c1,h.ok.c8,h.ok.zC,h.ok.gP,h.ok.ag,h.ok.zq,h.ok.cs,h.ok.hs,h.ok.ds,h.ok.hc,h.ok.ac,h.ok.al,h.ok.fh,h.ok.fl,h.ok.bu,h.ok.kl,h.ok.ko,h.ok.gi⟩⟩
end
structure KG(js:List Nat)(A:KA)(M M':KS)(w w':World):Prop where
 km:KM A w' M'
 md:Md M.cl js w w'
 cl:∀k,k<w.heap.size->M'.cl k=M.cl k
section
variable{A:KA}{M M1 M2:KS}{aD:Nat->Nat}{w w' w2:World}{js cZ:List Nat}{i:Nat}
theorem KG.kf(h:KG js A M M1 w w')(d:0∉js):KF [] M.cl M1.cl w w':=⟨h.md.os,h.md.tape,h.md.output,h.md.size,λk hk _ h0=>(h.cl k hk).trans h0,λk hk _ h0=>h.md.block k hk qjg⟩
theorem KG.trans(h:KG js A M M1 w w')(h':KG js A M1 M2 w' w2):KG js A M M2 w w2:=
 ⟨h'.km,h.md.trans h.cl h'.md,λk hk=>(h'.cl k (XAH hk h.md.size)).trans (h.cl k hk)⟩
theorem KG.more(h:KG js A M M1 w w')(hs:∀j∈js,j∈cZ):KG cZ A M M1 w w':=⟨h.km,h.md.more hs,h.cl⟩
theorem KG.refl(js:List Nat)(h:KM A w M):KG js A M M w w:=⟨h,Md.refl _ _ _,λ_ _=>rfl⟩
theorem KG.of_below(js:List Nat)(h:KM A w M)(hb:Below w w w'):KG js A M M w w':=⟨h.below hb,Md.of_below _ _ hb,λ_ _=>rfl⟩
theorem KG.from_(h:KG js A M M1 w' w2)(hb:Below w w w'):KG js A M M1 w w2:=⟨h.km,(Md.of_below _ _ hb).trans' h.md,λk hk=>h.cl k (XAH hk hb.size)⟩
theorem KG.eZ(h:KG js A M M1 w w')(hb:Below w' w' w2):KG js A M M1 w w2:=⟨h.km.below hb,h.md.below hb,h.cl⟩
theorem Md.iR{cl:Nat->Nat}{b:Nat}(h:One b w w')(hb:b<w.heap.size->cl b∈js):Md cl js w w':=⟨h.os,h.tape,h.output,h.size,λk hk hj=>h.block k hk λe=>hj (by rw [e] at hk ⊢;exact hb hk)⟩
theorem Kj{cl:Nat->Nat}{j:Nat}(hm:Md (ext cl w j) js w w'):Md cl js w w':=⟨hm.os,hm.tape,hm.output,hm.size,λk hk hj=>hm.block k hk (by rw [dG hk];exact hj)⟩
theorem KM.zone(h:KM A w M){T:Tab}{L:Nat->List Nat}{F:Int->Option Int}{q:Nat}(hz:aR (ext M.cl w 62) w' A.ae T L F q)(hm:Md (ext M.cl w 62) [62,63,64] w w')(hq:q<=M.s):KG [62,63,64] A M { M with cl:=iU M.cl w w' 62,T:=T,L:=L,F:=F,zq:=q } w w':=by
 have hm1:=(Kj hm);have m:=Mv.up hm1 62;refine⟨⟨h.gn.mv m qf,h.k.mv m qf,h.tr.mv m qf qf,h.ch.mv m qf,h.st.mv m qf,h.ow.mv m qf,hz.cls λk hk=>LY hk,h.gr.mv m qf qf,h.cs.mv h.ok.cs m ql,h.hs.mv m qf,h.fr.mv m qf,
  λi hi=>(h.fa i hi).mv m (by have:=h.ok.c8;simp;omega) (by have:=h.ok.c8;simp;omega),h.ds.mv m qf qf,h.sc.mv m qf,m.new,⟨h.ok.c1,h.ok.c8,h.ok.zC,h.ok.gP,h.ok.ag,hq,h.ok.cs,h.ok.hs,h.ok.ds,h.ok.hc,h.ok.ac,h.ok.al,h.ok.fh,h.ok.fl,h.ok.bu,h.ok.kl,h.ok.ko,h.ok.gi⟩⟩,hm1,λk hk=>lX hk⟩
theorem Ko(cl:Nat->Nat)(w:World):rz (ext cl w 62) w:=λw' hs=>by
 funext k;unfold ext;by_cases h1:k<w'.heap.size
 .rw [XAE h1]
 .rw [XAD h1,XAD qd]
theorem KM.pY(h:KM A w M):aR (ext M.cl w 62) w A.ae M.T M.L M.F M.zq:=h.zn.cls λ_ hk=>dG hk
theorem Dm(h:KM A w M){k:Nat}(hk:k<A.C)(p:Int)(hp:dC p):Z 91 #[(A.ae.zb,0),I k,I p] w λe w'=>
  ∃(r:Int)(c1:Nat->Nat)(T1:Tab)(L1:Nat->List Nat)(F1:Int->Option Int),e=.returned (I r)/\KG [62,63,64] A M { M with cl:=c1,T:=T1,L:=L1,F:=F1 } w w':=by
 refine(ab8 w h.pY (Ko _ _) (by rw [h.ok.zC];exact hk) p hp).mono λe w' hr=>?_;obtain⟨r,T1,L1,F1,he,-,hz,hm⟩:=hr;exact⟨r,_,T1,L1,F1,he,h.zone hz hm h.ok.zq⟩
def Fz(A:KA)(M:KS)(o:Nat)(w:World)(e:Ending)(w':World):Prop:=
 ∃(c1:Nat->Nat)(T1:Tab)(L1:Nat->List Nat)(F1:Int->Option Int)(q1:Nat),KG [62,63,64] A M { M with cl:=c1,T:=T1,L:=L1,F:=F1,zq:=q1,s:=M.s+1 } w w'/\
  ((e=.returned (.tuple #[I 0,I 7])/\ic M.T A.ae.n o 11)\/∃p:Nat,p<A.ae.n/\e=.returned (.tuple #[nV p,I 0]))
theorem XC(h:KM A w M)(hs:M.s<1000000){k:Nat}(hk:k<A.C)(o c:Nat)(ho:o<=10)(h1:1<=c)(hc:c<=8):Z 148 #[(A.ae.zb,0),I k,I o,I c] w (Fz A M o w):=by
 refine(abO w h.pY (Ko _ _) (by rw [h.ok.zC];exact hk) o c ho h1 hc (by have:=h.ok.zq;omega)).mono λe w' hr=>?_;obtain⟨⟨T1,L1,F1,hz⟩,hm,hr⟩:=hr;refine⟨iU M.cl w w' 62,T1,L1,F1,M.zq+1,?_,hr⟩;have h2:=h.more (s':=M.s+1) qd;have h3:=h2.zone (T:=T1) (L:=L1) (F:=F1) (q:=M.zq+1) hz hm (by have:=h.ok.zq;show M.zq+1<=M.s+1;omega);exact⟨h3.km,h3.md,h3.cl⟩
theorem KY{G G':Nat->Gp}{n:Nat}(h:ml n G):∀(f i:Nat),i<n->(∀j,j<n->(G' j).p=(G j).p)->sM G' f i=sM G f i
 |0,_,_,_=>rfl
 |f+1,i,hi,he=>by
  have hp:=h.par i hi;unfold sM;rw [he i hi];split
  .rfl
  .rw [KY h f _ qd he]
theorem dn.mono{nc nh tn Kq Kt LQ:Nat}{G G':Nat->Gp}{a:Ac}(h:dn nc nh tn G a)(h1:nc<=Kq)(h2:nh<=Kt)(h3:tn<=LQ)(hG:ml tn G)(he:∀j,j<tn->(G' j).p=(G j).p):dn Kq Kt LQ G' a:=by
 rcases h with⟨h,ha,hb,hc⟩|⟨h,ha,hb⟩|⟨h,ha,hb,hc⟩
 .refine .inl ⟨h,λhk=>⟨(ha hk).1,by have:=(ha hk).2;omega⟩,λhk=>⟨(hb hk).1,?_⟩,hc⟩;obtain⟨g1,g2⟩:=ha (.inr hk);have g3:=(hb hk).2;unfold cf at g3 ⊢;rw [XAE ⟨g1,g2⟩] at g3;rw [XAE ⟨g1,qd⟩];show a.C<((sM G' _ _).length:Int);rw [KY hG _ _ qd he];exact g3
 .exact .inr (.inl ⟨h,ha,qd⟩)
 .exact .inr (.inr ⟨h,ha,λhk=>by have:=hb hk;omega,λhk=>by have:=hc hk;omega⟩)
theorem KM.tree(h:KM A w M){tg tn jY:Nat}{G:Nat->Gp}(ht:bA (ext M.cl w 2) 2 w' A.tb tg tn jY G)(hm:Md M.cl [2] w w')(hn:M.tn<=tn)(he:∀j,j<M.tn->(G j).p=(M.G j).p):KG [2] A M { M with cl:=iU M.cl w w' 2,tg:=tg,tn:=tn,jY:=jY,G:=G } w w':=by
 have m:=Mv.up hm 2;refine⟨⟨h.gn.mv m qf,h.k.mv m qf,ht.cls λk hk=>LY hk,h.ch.mv m qf,h.st.mv m qf,h.ow.mv m qf,h.zn.mv m qf qf qf qf,h.gr.mv m qf qf,h.cs.mv h.ok.cs m ql,h.hs.mv m qf,h.fr.mv m qf,
  λi hi=>(h.fa i hi).mv m qj qj,h.ds.mv m qf qf,h.sc.mv m qf,m.new,⟨h.ok.c1,h.ok.c8,h.ok.zC,h.ok.gP,h.ok.ag,h.ok.zq,h.ok.cs,h.ok.hs,h.ok.ds,h.ok.hc,λi hi a ha=>(h.ok.ac i hi a ha).mono (XAB _) (XAB _) hn h.tr.ok he,h.ok.al,h.ok.fh,h.ok.fl,h.ok.bu,h.ok.kl,h.ok.ko,h.ok.gi⟩⟩,hm,λk hk=>lX hk⟩
theorem XA(h:KM A w M){g:Nat}(hg:g<M.tn):Z 125 #[(A.tb,0),I ((g:Int)+1)] w λe w'=>
  ∃(r er:Int)(c1:Nat->Nat)(tg tn jY:Nat)(G:Nat->Gp),e=.returned (.tuple #[I r,I er])/\0<=r/\r<=16/\KG [2] A M { M with cl:=c1,tg:=tg,tn:=tn,jY:=jY,G:=G } w w':=by
 refine(acF w h.tr hg).mono λe w' hr=>?_;obtain⟨r,er,tg,tn,jY,G,he,h0,h1,ht,hm,hn,hG⟩:=hr;exact⟨r,er,_,tg,tn,jY,G,he,h0,h1,h.tree ht hm hn λj hj=>by rw [hG j hj]⟩
theorem Yc(h:KM A w M){g:Nat}(hg:g<M.tn):Z 127 #[(A.tb,0),I ((g:Int)+1)] w λe w'=>
  ∃(r:Int)(c1:Nat->Nat)(G:Nat->Gp),e=.returned (I r)/\KG [2] A M { M with cl:=c1,G:=G } w w':=by
 refine(aa_ w (h.tr.cls (aD:=ext M.cl w 2) λk hk=>dG hk) hg).mono λe w' hr=>?_;obtain⟨r,G,he,ht,hm,hp⟩:=hr;exact⟨r,_,G,he,h.tree ht (Kj hm) (XAB _) λj _=>hp j⟩
theorem KM.yq(h:KM A w M){U X:Nat->Int}(hc:aV w' A.ep U X)(hf:Fine U X)(ho:One A.ep w w'):KG [3] A M M w w':=by
 have hm:Md M.cl [3] w w':=Md.iR ho λ_=>by rw [h.ch.2];decide
 have m:=Mv.same hm h.new;exact⟨⟨h.gn.mv m qf,h.k.mv m qf,h.tr.mv m qf qf,⟨⟨U,X,hc,hf⟩,h.ch.2⟩,h.st.mv m qf,h.ow.mv m qf,h.zn.mv m qf qf qf qf,h.gr.mv m qf qf,h.cs.mv h.ok.cs m ql,h.hs.mv m qf,h.fr.mv m qf,
  λi hi=>(h.fa i hi).mv m qj qj,h.ds.mv m qf qf,h.sc.mv m qf,m.new,h.ok⟩,hm,λk hk=>rfl⟩
theorem Bu{x n:Int}(h:de [x] n=0):(1<=x/\x<=16)/\0<=n/\n<=9007199254740991:=by
 unfold de at h;cases h1:eR [x] with
 |false=>rw [h1] at h;simp at h
 |true=>
  rw [h1] at h;cases h2:lF [x] n with
  |false=>rw [h2] at h;simp at h
  |true=>
   simp [eR,tU] at h1;simp [lF] at h2;exact⟨h1,h2⟩
theorem Fine.L0{U X:Nat->Int}(h:Fine U X)(k:Nat){y:Int}(h0:0<=y)(h1:y<=9007199254740991):Fine (upd U k y) X:=λj hj=>by
 obtain⟨a,b,c,d⟩:=h j hj;unfold upd;split
 .exact⟨h0,h1,c,d⟩
 .exact⟨a,b,c,d⟩
theorem Fine.acT{U X:Nat->Int}(h:Fine U X)(k:Nat){y:Int}(h0:0<=y)(h1:y<=9007199254740991):Fine U (upd X k y):=λj hj=>by
 obtain⟨a,b,c,d⟩:=h j hj;unfold upd;split
 .exact⟨a,b,h0,h1⟩
 .exact⟨a,b,c,d⟩
theorem J1(h:KM A w M)(x n:Int):Z 104 #[(A.ep,0),I x,I n] w λe w'=>∃r:Int,e=.returned (I r)/\KG [3] A M M w w':=by
 obtain⟨⟨U,X,hC,hF⟩,-⟩:=h.ch;by_cases ha:de [x] n=0
 .obtain⟨⟨h1,h2⟩,h3,h4⟩:=Bu ha;have hk:(x-1).toNat<16:=by omega
  obtain⟨f1,f2,f3,f4⟩:=hF _ hk;by_cases hq:n<=U (x-1).toNat
  .exact(SJ w _ U X hC hF x n _ hk qd (XAA ha) hq).mono λe w' hr=>⟨_,hr.1,h.yq hr.2.1 (hF.L0 _ qd qd) hr.2.2⟩
  .exact(SI w _ U X hC hF x n _ hk qd (XAA ha) qd).mono λe w' hr=>⟨_,hr.1,KG.of_below _ h hr.2⟩
 .exact(SH w _ U X hC x n _ (XAA R) ha).mono λe w' hr=>⟨_,hr.1,KG.of_below _ h hr.2⟩
theorem Ys(h:KM A w M)(x n:Int):Z 101 #[(A.ep,0),I x,I n] w λe w'=>∃r:Int,e=.returned (I r)/\KG [3] A M M w w':=by
 obtain⟨⟨U,X,hC,hF⟩,-⟩:=h.ch;by_cases ha:de [x] n=0
 .obtain⟨⟨h1,h2⟩,h3,h4⟩:=Bu ha;have hk:(x-1).toNat<16:=by omega
  obtain⟨f1,f2,f3,f4⟩:=hF _ hk;by_cases hq:n<=X (x-1).toNat-U (x-1).toNat
  .exact(acH w _ U X hC hF x n _ hk qd (XAA ha) hq).mono λe w' hr=>⟨_,hr.1,h.yq hr.2.1 (hF.L0 _ qd qd) hr.2.2⟩
  .exact(ab1 w _ U X hC hF x n _ hk qd (XAA ha) qd).mono λe w' hr=>⟨_,hr.1,KG.of_below _ h hr.2⟩
 .exact(acj w _ U X hC x n _ (XAA R) ha).mono λe w' hr=>⟨_,hr.1,KG.of_below _ h hr.2⟩
theorem X6(h:KM A w M)(x n:Int):Z 126 #[(A.ep,0),I x,I n] w λe w'=>∃r:Int,e=.returned (I r)/\KG [3] A M M w w':=by
 obtain⟨⟨U,X,hC,hF⟩,-⟩:=h.ch;by_cases ha:de [x] n=0
 .obtain⟨⟨h1,h2⟩,h3,h4⟩:=Bu ha;exact(YS w _ U X hC x n (x-1).toNat qd qd (XAA ha)).mono λe w' hr=>⟨_,hr.1,h.yq hr.2.1 (hF.acT _ h3 h4) hr.2.2⟩
 .exact(YR w _ U X hC x n _ (XAA R) ha).mono λe w' hr=>⟨_,hr.1,KG.of_below _ h hr.2⟩
theorem XD(h:KM A w M)(xs:List Int)(n:Int)(B:Option Addr)(c:Nat)(hR:Row w B (fw xs))(hB:∀g off,B=some ⟨g,off,none⟩->M.cl g=0)(hl:xs.length<=100):Z 130 #[(A.ep,0),.slice B xs.length c,I n] w λe w'=>∃r:Int,e=.returned (I r)/\KG [3] A M M w w':=by
 obtain⟨⟨U,X,hC,hF⟩,h3⟩:=h.ch;by_cases ha:de xs n=0
 .have hne:∀g off,B=some ⟨g,off,none⟩->g≠A.ep:=λg off e e'=>by have:=hB g off e;rw [e',h3] at this;cases this
  have hn:0<=n/\n<=9007199254740991:=by
   unfold de at ha;cases h1:eR xs with
   |false=>rw [h1] at ha;simp at ha
   |true=>
    rw [h1] at ha;cases h2:lF xs n with
    |false=>rw [h2] at ha;simp at ha
    |true=>simp [lF] at h2;exact⟨h2.2.2.2.1,h2.2.2.2.2⟩
  refine(PV w _ U X hC hF xs _ (XAA R) n B c hR hne (XAA ha)).mono λe w' hr=>?_;rcases hr with⟨hlo,he,hc,ho⟩|⟨-,he,hb⟩
  .refine⟨_,he,h.yq hc (λk hk=>?_) ho⟩;obtain⟨f1,f2,f3,f4⟩:=hF k hk;unfold ig;split
   .rename_i hm;have:=XBu.1 hlo _ hm;simp at this;exact⟨qd,qd,f3,f4⟩
   .exact⟨f1,f2,f3,f4⟩
  .exact⟨_,he,KG.of_below _ h hb⟩
 .exact(PW w _ U X hC xs _ (XAA R) qd n B c hR _ R ha).mono λe w' hr=>⟨_,hr.1,KG.of_below _ h hr.2⟩
theorem KM.D4(h:KM A w M){X:Nat->Int × Int}(hc:eo w' A.d_ A.pV A.C X)(ho:Rws [A.pV] w w'):KG [4] A M M w w':=by
 have hm:Md M.cl [4] w w':=Md.pO ho λg hg _=>by simp at hg;rw [hg,h.st.2.2];decide
 have m:=Mv.same hm h.new;exact⟨⟨h.gn.mv m qf,h.k.mv m qf,h.tr.mv m qf qf,h.ch.mv m qf,⟨⟨X,hc⟩,h.st.2⟩,h.ow.mv m qf,h.zn.mv m qf qf qf qf,h.gr.mv m qf qf,h.cs.mv h.ok.cs m ql,h.hs.mv m qf,h.fr.mv m qf,
  λi hi=>(h.fa i hi).mv m qj qj,h.ds.mv m qf qf,h.sc.mv m qf,m.new,h.ok⟩,hm,λk hk=>rfl⟩
theorem Yq(h:KM A w M){k:Nat}(hk:k<A.C)(x n:Int):Z 99 #[(A.d_,0),I k,I x,I n] w λe w'=>∃r:Bool,e=.returned (.bool r)/\KG [4] A M M w w':=by
 obtain⟨⟨X,hX⟩,-⟩:=h.st;exact(aa2 w hX k hk x n).mono λe w' hr=>⟨_,hr.1,h.D4 hr.2.1 hr.2.2⟩
theorem Yj(h:KM A w M){k:Nat}(hk:k<A.C)(x n:Int):Z 144 #[(A.d_,0),I k,I x,I n] w λe w'=>∃u v er:Int,e=.returned (.tuple #[I u,I v,I er])/\KG [4] A M M w w':=by
 obtain⟨⟨X,hX⟩,-⟩:=h.st;refine(abB w hX k hk x n).mono λe w' hr=>?_;obtain⟨u,v,er,X',he,hs,ho⟩:=hr;exact⟨u,v,er,he,h.D4 hs ho⟩
theorem X2(h:KM A w M){k:Nat}(hk:k<A.C):Z 128 #[(A.d_,0),I k] w λe w'=>∃u v:Int,e=.returned (.tuple #[I u,I v])/\Below w w w':=by
 obtain⟨⟨X,hX⟩,-⟩:=h.st;exact(abz w hX k hk).mono λe w' hr=>⟨_,_,hr⟩
theorem XU(h:KM A w M){k:Nat}(hk:k<A.C):Z 129 #[(A.d_,0),I k] w λe w'=>∃u v:Int,e=.returned (.tuple #[I u,I v])/\KG [4] A M M w w':=by
 obtain⟨⟨X,hX⟩,-⟩:=h.st;exact(aaJ w hX k hk).mono λe w' hr=>⟨_,_,hr.1,h.D4 hr.2.1 hr.2.2⟩
theorem KM.owner(h:KM A w M){n:Nat}{F:Int->Int->Int}(hc:OwnAt w' A.ob A.om 256 16 n F)(ho:One A.om w w')(hn:n<=M.s):KG [5] A M M w w':=by
 have hm:Md M.cl [5] w w':=Md.iR ho λ_=>by rw [h.ow.2.2];decide
 have m:=Mv.same hm h.new;exact⟨⟨h.gn.mv m qf,h.k.mv m qf,h.tr.mv m qf qf,h.ch.mv m qf,h.st.mv m qf,⟨⟨n,F,hn,hc⟩,h.ow.2⟩,h.zn.mv m qf qf qf qf,h.gr.mv m qf qf,h.cs.mv h.ok.cs m ql,h.hs.mv m qf,h.fr.mv m qf,
  λi hi=>(h.fa i hi).mv m qj qj,h.ds.mv m qf qf,h.sc.mv m qf,m.new,h.ok⟩,hm,λk hk=>rfl⟩
theorem Ym(h:KM A w M)(hs:M.s<100000)(x y g:Int)(hg:aY g):Z 112 #[(A.ob,0),I x,I y,I g] w λe w'=>∃r:Int,e=.returned (I r)/\KG [5] A M { M with s:=M.s+1 } w w':=by
 obtain⟨⟨n,F,hn,hX⟩,-⟩:=h.ow;exact(abT w _ _ _ _ n F hX qd x y g hg).mono λe w' hr=>⟨_,hr.1,by
  have:=(h.more (s':=M.s+1) qd).owner hr.2.1 hr.2.2 (by show n+1<=M.s+1;omega)
  exact⟨this.km,this.md,this.cl⟩⟩
theorem XP(h:KM A w M)(x y:Int):Z 115 #[(A.ob,0),I x,I y] w λe w'=>∃r er:Int,e=.returned (.tuple #[I r,I er])/\KG [5] A M M w w':=by
 obtain⟨⟨n,F,hn,hX⟩,-⟩:=h.ow;exact(RS w _ _ _ _ n F hX x y).mono λe w' hr=>⟨_,_,hr.1,h.owner hr.2.1 hr.2.2 hn⟩
theorem X_(h:KM A w M)(hs:M.s<100000)(x y:Int):Z 131 #[(A.ob,0),I x,I y] w λe w'=>∃r er:Int,e=.returned (.tuple #[I r,I er])/\KG [5] A M M w w':=by
 obtain⟨⟨n,F,hn,hX⟩,-⟩:=h.ow;exact(move_any w _ _ _ _ n F hX qd x y).mono λe w' hr=>⟨_,_,hr.1,h.owner hr.2.1 hr.2.2 hn⟩
end
section
variable{A:KA}{M M1 M2:KS}{aD:Nat->Nat}{w w' w2:World}{js cZ:List Nat}{i k:Nat}
theorem KM.vD(h:KM A w M){gs:List Nat}{G:Gr}(hgs:∀k,k<w.heap.size->M.cl k≠7->k∈gs)(hg:aN w' A.gb gs G)(hI:Inv G)(ho:One A.gb w w')(hC:G.C=A.C)(hE:G.ag<=30*M.s)(hi:∀k,∀x∈G.L k,0<=x.id/\x.id<=9007199254740991/\x.id % 16<M.cs.length):
  KG [6] A M { M with cl:=iU M.cl w w' 7,gr:=G } w w':=by
 have hm:Md M.cl [6] w w':=Md.iR ho λ_=>by rw [h.gr.1];decide
 have m:=Mv.up hm 7;have hlt:A.gb<w.heap.size:=by obtain⟨-,-,gs,hg,-⟩:=h.gr;exact hg.lt
 have hgr:jv (iU M.cl w w' 7) w' A.gb G:=jv.of hI hg ((lX hlt).trans h.gr.1) λk hk h7=>by
  rcases XAc k w.heap.size with hl|hl
  .rw [lX hl] at h7;exact hgs k hl h7
  .exact absurd (wV hl hk) h7
 exact⟨⟨h.gn.mv m qf,h.k.mv m qf,h.tr.mv m qf qf,h.ch.mv m qf,h.st.mv m qf,h.ow.mv m qf,h.zn.mv m qf qf qf qf,hgr,h.cs.mv h.ok.cs m ql,h.hs.mv m qf,h.fr.mv m qf,
  λi hi=>(h.fa i hi).mv m qj qj,h.ds.mv m qf qf,h.sc.mv m qf,m.new,⟨h.ok.c1,h.ok.c8,h.ok.zC,hC,hE,h.ok.zq,h.ok.cs,h.ok.hs,h.ok.ds,h.ok.hc,h.ok.ac,h.ok.al,h.ok.fh,h.ok.fl,h.ok.bu,h.ok.kl,h.ok.ko,hi⟩⟩,hm,λk hk=>lX hk⟩
theorem J0(h:KM A w M)(x:Int):Z 62 #[(A.gb,0),I x] w λe w'=>e=.returned (I (oS M.gr x))/\w'=w:=by
 obtain⟨-,hI,gs,hg,-⟩:=h.gr;exact SE w _ gs _ hg hI x
theorem YT(G:Gr)(k:Nat):(jM G k).1.C=G.C/\(jM G k).1.ag=G.ag/\(jM G k).1.L=G.L:=by
 unfold jM;cases decide (G.D k=8)<;>exact⟨R,R,R⟩
theorem aax(G:Gr)(k:Nat):(j5 G k).1.C=G.C/\(j5 G k).1.ag=G.ag/\(j5 G k).1.L=G.L:=by
 unfold j5;cases decide (G.D k=0)<;>exact⟨R,R,R⟩
theorem Lh(G:Gr)(k:Nat):(fR G k).1.C=G.C/\(fR G k).1.ag<=G.ag+1/\(fR G k).1.L=G.L:=by
 have key:∀r:Gr × Int,r=fR G k->r.1.C=G.C/\r.1.ag<=G.ag+1/\r.1.L=G.L:=by
  intro r hr;unfold fR at hr;cases h1:decide (0<G.D k)<;>rw [h1] at hr
  .cases h2:G.go<;>rw [h2] at hr
   .subst hr;exact⟨R,XAU _,R⟩
   .cases h3:sm (jO G k)<;>rw [h3] at hr
    .cases h4:ue (mz (jO G k))<;>rw [h4] at hr<;>subst hr<;>exact⟨R,XAB _,R⟩
    .subst hr;exact⟨R,XAU _,R⟩
  .subst hr;exact⟨R,XAU _,R⟩
 exact key _ rfl
theorem X7(h:KM A w M)(hk:k<A.C):Z 82 #[(A.gb,0),I k] w λe w'=>∃(r:Int)(c1:Nat->Nat),e=.returned (I r)/\KG [6] A M { M with cl:=c1,gr:=(jM M.gr k).1 } w w':=by
 obtain⟨-,hI,gs,hg,hgs⟩:=h.gr;obtain⟨e1,e2,e3⟩:=YT M.gr k;exact(YU w hg hI k qfv).mono λe w' hr=>⟨_,_,hr.1,h.vD hgs hr.2.1 hI.lock hr.2.2 (e1.trans h.ok.gP) qkf qkb⟩
theorem Yr(h:KM A w M)(hk:k<A.C):Z 83 #[(A.gb,0),I k] w λe w'=>∃(r:Int)(c1:Nat->Nat),e=.returned (I r)/\KG [6] A M { M with cl:=c1,gr:=(j5 M.gr k).1 } w w':=by
 obtain⟨-,hI,gs,hg,hgs⟩:=h.gr;obtain⟨e1,e2,e3⟩:=aax M.gr k;exact(abe w hg hI k qfv).mono λe w' hr=>⟨_,_,hr.1,h.vD hgs hr.2.1 hI.unlock hr.2.2 (e1.trans h.ok.gP) qkf qkb⟩
theorem KG.sq{s':Nat}(h:KG js A { M with s:=s' } M1 w w'):KG js A M M1 w w':=⟨h.km,h.md,h.cl⟩
theorem yZ(h:KM A w M)(hs:M.s<=30000)(hk:k<A.C):Z 63 #[(A.gb,0),I k] w λe w'=>∃(r:Int)(c1:Nat->Nat),e=.returned (I r)/\KG [6] A M { M with cl:=c1,gr:=(fR M.gr k).1,s:=M.s+1 } w w':=by
 obtain⟨-,hI,gs,hg,hgs⟩:=h.gr;obtain⟨e1,e2,e3⟩:=Lh M.gr k;have hE:=h.ok.ag;have h1:=h.more (s':=M.s+1) qd;exact(Z9 w hg hI qd k qfv).mono λe w' hr=>⟨_,_,hr.1,(h1.vD hgs hr.2.1 hI.quiet hr.2.2 (e1.trans h.ok.gP) (by show _<=30*(M.s+1);omega) qkb).sq⟩
theorem ZZ{G:Gr}{k:Nat}{p:Int}(h:p∈polled G k):∃x∈G.L k,x.id=p:=by
 unfold polled mJ at h;obtain⟨x,hx,rfl⟩:=XBR.1 h;exact⟨x,XDr hx,R⟩
theorem Yi(h:KM A w M)(hk:k<A.C):Z 90 #[(A.gb,0),I k] w λe w'=>∃(B:Option Addr)(c:Nat)(c1:Nat->Nat),e=.returned (.tuple #[.slice B (polled M.gr k).length c,I 0])/\
  w'.ownsRow w.heap.size 3 1 (.slice B (polled M.gr k).length c) (polled M.gr k).length (fw (polled M.gr k))/\(∀g,w.heap.size<=g->g<w'.heap.size->c1 g=7)/\KG [6] A M { M with cl:=c1,gr:=sv M.gr k } w w':=by
 obtain⟨-,hI,gs,hg,hgs⟩:=h.gr;refine(ZY w hg hI k qfv).mono λe w' hr=>?_;obtain⟨B,c,he,hown,hg',ho⟩:=hr;refine⟨B,c,_,he,hown,λg h1 h2=>wV h1 h2,h.vD hgs hg' hI.poll ho h.ok.gP h.ok.ag λj x hx=>h.ok.gi j x ?_⟩;have hx':x∈cT M.gr.L k ((M.gr.L k).drop (fZ M.gr.ag (M.gr.L k))) j:=hx;unfold cT at hx';split at hx'
 .rename_i e;rw [e];exact List.mem_of_mem_drop hx'
 .exact hx'
theorem Rt(G:Gr)(k:Nat)(i:Int):(iK G k i).1.C=G.C/\(iK G k i).1.ag=G.ag/\∀j,∀x∈(iK G k i).1.L j,x∈G.L j\/(x.id=i/\0<=i/\i<=9007199254740991):=by
 unfold iK;by_cases h1:i<0\/9007199254740991<i
 .rw [XAR h1];exact⟨R,R,λj x hx=>.inl hx⟩
 .rw [XAS h1];by_cases h2:(G.L k).length=256
  .rw [XAR h2];exact⟨R,R,λj x hx=>.inl hx⟩
  .rw [XAS h2];simp only [XC4];have hc:(fo G).1.C=G.C/\(fo G).1.ag=G.ag/\(fo G).1.L=G.L:=by unfold fo;cases G.go<;>exact⟨R,R,R⟩
   unfold nY;generalize hr:gJ (G.L k) ⟨i,(fo G).2⟩=r;by_cases h3:r.2=0
   .rw [XAR h3];refine⟨hc.1,hc.2.1,λj x hx=>?_⟩;have hx':x∈cT (fo G).1.L k r.1 j:=hx;unfold cT at hx';rw [hc.2.2] at hx';split at hx'
    .rename_i e;rw [e];have:r.1= []\/r.1=G.L k++ [⟨i,(fo G).2⟩]:=by
      unfold gJ at hr;cases h4:decide (bY (G.L k)=0)<;>rw [h4] at hr
      .subst hr;exact .inl rfl
      .cases h5:decide ((G.L k).length=256)<;>rw [h5] at hr
       .cases h6:decide (bY (G.L k++ [⟨i,(fo G).2⟩])=0)<;>rw [h6] at hr<;>subst hr
        .exact .inl rfl
        .exact .inr rfl
       .subst hr;exact .inl rfl
     rcases this with e1|e1
     .rw [e1] at hx';cases hx'
     .rw [e1] at hx';rcases XAe.1 hx' with h4|h4
      .exact .inl h4
      .simp at h4;subst h4;exact .inr ⟨R,qd,qd⟩
    .exact .inl hx'
   .rw [XAS h3];exact⟨hc.1,hc.2.1,λj x hx=>.inl (by rw [<-hc.2.2];exact hx)⟩
theorem XO(h:KM A w M)(hs:M.s<=30000)(hk:k<A.C)(z:Int)(hz:z % 16<M.cs.length):Z 151 #[(A.gb,0),I k,I z] w λe w'=>∃(r:Int)(c1:Nat->Nat),e=.returned (I r)/\KG [6] A M { M with cl:=c1,gr:=(iK M.gr k z).1 } w w':=by
 obtain⟨-,hI,gs,hg,hgs⟩:=h.gr;obtain⟨e1,e2,e3⟩:=Rt M.gr k z;have hE:=h.ok.ag;exact(Rv w hg hI qd k qfv z).mono λe w' hr=>⟨_,_,hr.1,h.vD hgs hr.2.1 (hI.call z) hr.2.2 (e1.trans h.ok.gP) qkf λj x hx=>by
  rcases e3 j x hx with h1|⟨h1,h2,h3⟩
  .exact h.ok.gi j x h1
  .rw [h1];exact⟨h2,h3,hz⟩⟩
end
def Cc.upd(x:Cc)(ws:List Nat)(n:Nat)(Q:Int->Option Tk)(q:Nat):Cc:= { x with ws:=ws,n:=n,Q:=Q,q:=q }
section
variable{A:KA}{M M1 M2:KS}{aD:Nat->Nat}{w w' w2:World}{js cZ:List Nat}{i k:Nat}{x y:Cc}
theorem Y2{α β:Type}(f:α->β){l:List α}{i:Nat}{x y:α}(h:l[i]? =some x)(e:f y=f x):(l.set i y).map f=l.map f:=by
 rw [List.map_set,e];apply XA5;intro j;rw [XBm];split
 .rename_i hj;subst hj;rw [XAa,h];split
  .rfl
  .rename_i hl;simp at hl;rw [XAd hl] at h;cases h
 .rfl
theorem lt_of_some{α:Type}{l:List α}{i:Nat}{x:α}(h:l[i]? =some x):i<l.length:=by
 rcases XAc i l.length with h1|h1
 .exact h1
 .rw [XAd h1] at h;cases h
theorem jz.rK(h:jz A M)(cs:List Cc)(hl:cs.length=M.cs.length):jz A { M with cs:=cs } :=
 ⟨h.c1,h.c8,h.zC,h.gP,h.ag,h.zq,by show cs.length<=8;rw [hl];exact h.cs,h.hs,h.ds,λx hx=>by show x.ca<cs.length;rw [hl];exact h.hc x hx,λi hi a ha=>by show dn cs.length _ _ _ a;rw [hl];exact h.ac i hi a ha,h.al,h.fh,h.fl,h.bu,h.kl,h.ko,
  λk x hx=>by have:=h.gi k x hx;rw [<-hl] at this;exact this⟩
theorem KM.rK(h:KM A w M)(hm:Md M.cl js w w')(hi:M.cs[i]? =some x)(hy:j6 M.cl w' A.C i M.s y)(e:y.cb=x.cb)(d:∀k∈js,100+10*i<=k/\k<100+10*i+10):KG js A M { M with cs:=M.cs.set i y } w w':=by
 have m:=Mv.same hm h.new;have CO:i<8:=XAH (lt_of_some hi) h.ok.cs;have n1:∀k,k<100->k∉js:=λk hk hj=>by have:=d k hj;omega
 refine⟨⟨h.gn.mv m (n1 _ qf),h.k.mv m (n1 _ qf),h.tr.mv m (n1 _ qf) qf,h.ch.mv m (n1 _ qf),h.st.mv m (n1 _ qf),h.ow.mv m (n1 _ qf),h.zn.mv m (n1 _ qf) (n1 _ qf) (n1 _ qf) (n1 _ qf),h.gr.mv m (n1 _ qf) (n1 _ qf),
  ⟨?_,λj z hz=>?_⟩,h.hs.mv m (n1 _ qf),h.fr.mv m (n1 _ qf),λj hj=>(h.fa j hj).mv m (n1 _ (by have:=h.ok.c8;omega)) (n1 _ (by have:=h.ok.c8;omega)),h.ds.mv m (n1 _ qf) (n1 _ qf),h.sc.mv m (n1 _ qf),m.new,h.ok.rK _ (XAk ..)⟩,hm,λk hk=>rfl⟩
 .show Own M.cl 8 w' _ 1 M.cv (M.cs.set i y).length ((M.cs.set i y).map jo);rw [XAk,Y2 jo hi (by show Value.pointer _=Value.pointer _;rw [e])];exact h.cs.1.mv m (n1 _ qf) qf
 .have hz':(M.cs.set i y)[j]? =some z:=hz;rw [XBm] at hz';split at hz'
  .rename_i hj;subst hj;split at hz'
   .injection hz' with hz';subst hz';exact hy
   .cases hz'
  .rename_i hj;exact(h.cs.2 j z hz').mv m λk hk hk'=>by have:=d _ hk';omega
theorem KM.tA(h:KM A w M)(hi:M.cs[i]? =some x){ws:List Nat}{n:Nat}{Q:Int->Option Tk}{q:Nat}(hc:aP w' x.wb x.mb x.g x.tm x.ch ws n Q q)(ho:Rws [x.tm,x.mb,x.g] w w')(hq:q<=M.s)(hn:n<=3*M.s):
  KG [100+10*i+3,100+10*i+4,100+10*i+5] A M { M with cs:=M.cs.set i (x.upd ws n Q q) } w w':=by
 have hx:=h.cs.2 i x hi;have hm:Md M.cl [100+10*i+3,100+10*i+4,100+10*i+5] w w':=Md.pO ho λg hg _=>by
  simp at hg;rcases hg with rfl|rfl|rfl
  .rw [hx.c5];simp
  .rw [hx.c3];simp
  .rw [hx.c4];simp
 refine h.rK hm hi ⟨hm.blk hx.blk (by show M.cl x.cb∉_;rw [hx.c0];simp),hm.row hx.pg (by show M.cl x.pg∉_;rw [hx.c1];simp),hx.pl,hx.pk,hc,hx.cC,hx.od,hq,hn,hx.c0,hx.c1,hx.c2,hx.c3,hx.c4,hx.c5⟩ R λk hk=>qiy
theorem KM.aj(h:KM A w M)(hi:M.cs[i]? =some x)(hk:k<A.C):0<=(k:Int)/\(k:Int)<x.ch.C:=⟨qd,by rw [(h.cs.2 i x hi).cC];omega⟩
theorem J6(h:KM A w M)(hi:M.cs[i]? =some x)(hk:k<A.C):Z 106 #[(x.wb,0),I k] w λe w'=>e=.returned (.tuple #[aH ((x.Q k).getD aO),.bool (x.Q k).isSome])/\Below w w w':=
 SB (h.cs.2 i x hi).cr k (h.aj hi hk)
theorem Rws.wide{gs gs':List Nat}(h:Rws gs w w')(hs:∀g∈gs,g∈gs'):Rws gs' w w':=⟨h.os,h.tape,h.output,h.size,λk hk hn=>h.block k hk λe=>hn (hs k e)⟩
def N_(A:KA)(M:KS)(i:Nat)(x:Cc)(k:Nat)(ar s o:Int)(w:World)(e:Ending)(w':World):Prop:=
 ∃(r:Int)(Q:Int->Option Tk)(q:Nat),e=.returned (I r)/\KG [100+10*i+3,100+10*i+4,100+10*i+5] A M { M with cs:=M.cs.set i (x.upd x.ws x.n Q q),s:=M.s+1 } w w'/\
  (ar=1->Q=cU x.Q k (some { aO with ar:=1,aj:=k }))/\(ar=2->0<=eK x.ch s o->Q=cU x.Q k (some { aO with ar:=2,aj:=k,pc:=10,ai:=s,aq:=o }))
theorem XG(h:KM A w M)(hs:M.s<=30000)(hi:M.cs[i]? =some x)(hk:k<A.C)(hQ:x.Q k=none)(ar s o:Int):Z 107 #[(x.wb,0),I k,I ar,I s,I o] w (N_ A M i x k ar s o w):=by
 have hx:=h.cs.2 i x hi;have hc:=h.aj hi hk;have hq:=hx.qs;have hn:=hx.ns;have h1:=h.more (s':=M.s+1) qd;have yes:∀{e:Ending}{w':World}{Q:Int->Option Tk},aP w' x.wb x.mb x.g x.tm x.ch x.ws x.n Q (x.q+1)->Rws [x.tm] w w'->KG [100+10*i+3,100+10*i+4,100+10*i+5] A M { M with cs:=M.cs.set i (x.upd x.ws x.n Q (x.q+1)),s:=M.s+1 } w w':=λhC hr=>
  (h1.tA hi hC (hr.wide ql) qfn qek).sq
 have no:∀{w':World},Below w w w'->KG [100+10*i+3,100+10*i+4,100+10*i+5] A M { M with cs:=M.cs.set i (x.upd x.ws x.n x.Q x.q),s:=M.s+1 } w w':=λhb=>
  (h1.tA hi (hx.cr.below hb) (Rws.of_below _ hb) qfn qek).sq
 by_cases j1:ar=1
 .subst j1;exact(So w hx.cr qd k hc s o hQ).mono λe w' hr=>⟨_,_,_,hr.1,yes (e:=e) hr.2.1 hr.2.2,λ_=>rfl,(λh=>qck)⟩
 by_cases j2:ar=2
 .subst j2;by_cases hl:0<=eK x.ch s o
  .exact(Sq w hx.cr qd k hc s o hQ hl).mono λe w' hr=>⟨_,_,_,hr.1,yes (e:=e) hr.2.1 hr.2.2,(λh=>qck),λ_ _=>rfl⟩
  .exact(Sr w hx.cr k hc s o hQ qd).mono λe w' hr=>⟨_,_,_,hr.1,no hr.2,(λh=>qck),λ_ h=>absurd h hl⟩
 by_cases j3:ar=3
 .subst j3;by_cases hl:0<=s/\s<x.ch.C
  .exact(Ss w hx.cr qd k hc s o hQ hl).mono λe w' hr=>⟨_,_,_,hr.1,yes (e:=e) hr.2.1 hr.2.2,(λh=>qck),(λh=>qck)⟩
  .exact(Su w hx.cr k hc s o hQ hl).mono λe w' hr=>⟨_,_,_,hr.1,no hr.2,(λh=>qck),(λh=>qck)⟩
 by_cases j4:ar=4
 .subst j4;exact(Sv w hx.cr qd k hc s o hQ).mono λe w' hr=>⟨_,_,_,hr.1,yes (e:=e) hr.2.1 hr.2.2,(λh=>qck),(λh=>qck)⟩
 .exact(Sw w hx.cr k hc s o ar hQ j1 j2 j3 j4).mono λe w' hr=>⟨_,_,_,hr.1,no hr.2,λh=>absurd h j1,λh=>absurd h j2⟩
theorem KM.Ha(h:KM A w M){b:Nat}(hb:M.cl b≠99):0≠b:=λe=>hb (by rw [<-e];exact h.gn.2)
def Ov(A:KA)(M:KS)(i:Nat)(x:Cc)(t:Tk)(w:World)(e:Ending)(w':World):Prop:=
 ∃(t':Tk)(ws:List Nat)(n q:Nat),e=.returned (.tuple #[aH t',I 0])/\KG [100+10*i+3,100+10*i+4,100+10*i+5] A M { M with cs:=M.cs.set i (x.upd ws n (fW x.Q t') q),s:=M.s+1 } w w'/\t'.aj=t.aj/\m6 x.ch t x.ws x.n t' ws n
theorem Yn(h:KM A w M)(hs:M.s<=30000)(hi:M.cs[i]? =some x)(hk:k<A.C){t:Tk}(hQ:x.Q k=some t)(hw:t.aB=0):Z 110 #[(x.wb,0),I k] w (Ov A M i x t w):=by
 have hx:=h.cs.2 i x hi;have hq:=hx.qs;have hn:=hx.ns;have h1:=h.more (s':=M.s+1) qd;refine(SA w hx.cr ⟨⟨_,h.gn.1⟩⟩ ⟨h.Ha (by rw [hx.c3];omega),h.Ha (by rw [hx.c4];omega)⟩ qd qd k (h.aj hi hk) t hQ hw).mono λe w' hr=>?_;obtain⟨t',ws,n,he,hC,hn',hr,gQ,hex⟩:=hr;exact⟨t',ws,n,x.q+1,he,(h1.tA hi hC hr qfn qek).sq,gQ,hex⟩
theorem XW(h:KM A w M)(hs:M.s<=30000)(hi:M.cs[i]? =some x):Z 149 #[(x.wb,0)] w (EB w x.ch x.ws x.Q):=
 BY w (h.cs.2 i x hi).cr (by have:=(h.cs.2 i x hi).qs;omega)
def N8(A:KA)(M:KS)(i:Nat)(x:Cc)(t:Tk)(yes:Bool)(w:World)(e:Ending)(w':World):Prop:=
 ∃(t':Tk)(r:Int)(Q:Int->Option Tk)(q:Nat),e=.returned (.tuple #[aH t',I r])/\KG [100+10*i+3,100+10*i+4,100+10*i+5] A M { M with cs:=M.cs.set i (x.upd x.ws x.n Q q),s:=M.s+1 } w w'/\
  (oq x.ch x.ws x.Q->t'=eA t yes 0/\Q=fW x.Q (eA t yes 0))
theorem yX(h:KM A w M)(hs:M.s<=30000)(hi:M.cs[i]? =some x)(hk:k<A.C){t:Tk}(hQ:x.Q k=some t)(hw:t.aB=1)(yes:Bool):Z 150 #[(x.wb,0),I k,.bool yes] w (N8 A M i x t yes w):=by
 have hx:=h.cs.2 i x hi;have hq:=hx.qs;have hn:=hx.ns;have h1:=h.more (s':=M.s+1) qd;have main:Z 150 #[(x.wb,0),I k,.bool yes] w (As w x.wb x.mb x.g x.tm x.ch x.ws x.n x.Q x.q t yes):=by
  cases yes
  .exact Sk w hx.cr qd k (h.aj hi hk) t hQ hw
  .exact Sl w hx.cr qd k (h.aj hi hk) t hQ hw
 refine main.mono λe w' hr=>?_;obtain⟨hr,⟨s,-,he,hC,hs0⟩|⟨he,hC,hF⟩⟩:=hr
 .exact⟨_,0,_,x.q+1,he,(h1.tA hi hC (hr.wide ql) qfn qek).sq,λh0=>by rw [hs0 h0];exact⟨R,R⟩⟩
 .exact⟨_,7,_,x.q,he,(h1.tA hi hC (hr.wide ql) qfn qek).sq,λh0=>absurd h0 hF⟩
theorem J2(h:KM A w M)(hs:M.s<=30000)(hi:M.cs[i]? =some x)(hk:k<A.C){t:Tk}(hQ:x.Q k=some t)(hw:t.aB=2):Z 152 #[(x.wb,0),I k] w λe w'=>
  ∃(t':Tk)(r:Int)(Q:Int->Option Tk)(q:Nat),e=.returned (.tuple #[aH t',I r])/\KG [100+10*i+3,100+10*i+4,100+10*i+5] A M { M with cs:=M.cs.set i (x.upd x.ws x.n Q q),s:=M.s+1 } w w':=by
 have hx:=h.cs.2 i x hi;have hq:=hx.qs;have hn:=hx.ns;have h1:=h.more (s':=M.s+1) qd;refine(Sy w hx.cr qd k (h.aj hi hk) t hQ hw).mono λe w' hr=>?_;obtain⟨t',er,Q,he,hC,hr⟩:=hr;exact⟨t',er,Q,x.q+1,he,(h1.tA hi hC (hr.wide ql) qfn qek).sq⟩
end
section
variable{A:KA}{M M1 M2:KS}{aD:Nat->Nat}{w w' w2:World}{js cZ:List Nat}{i k:Nat}{x y:Cc}
structure N6(A:KA)(M:KS)(w:World):Prop where
 lt:A.kb<w.heap.size
 frz:∀j,w.frozen? ⟨A.kb,j,none⟩=false
 k0:w.cell? (A.kb,0)=some (nV A.C)
 k2:w.cell? (A.kb,2)=some (.slice (A.aK,0) A.C A.C)
 k4:w.cell? (A.kb,4)=some (.pointer (A.tb,0))
 k5:w.cell? (A.kb,5)=some (.pointer (A.ep,0))
 k6:w.cell? (A.kb,6)=some (.pointer (A.d_,0))
 k7:w.cell? (A.kb,7)=some (.pointer (A.ob,0))
 k25:w.cell? (A.kb,25)=some (.pointer (A.ae.zb,0))
 k26:w.cell? (A.kb,26)=some (.pointer (A.gb,0))
 k27:w.cell? (A.kb,27)=some M.cv
 k28:w.cell? (A.kb,28)=some M.hv
 k29:w.cell? (A.kb,29)=some (.slice (A.fb,0) A.C A.C)
 k30:w.cell? (A.kb,30)=some M.dv
 k31:w.cell? (A.kb,31)=I M.now
theorem KM.rd(h:KM A w M):N6 A M w:=
 have b:=h.k.1
 ⟨b.lt,b.frozen,b.cell 0,b.cell 2,b.cell 4,b.cell 5,b.cell 6,b.cell 7,b.cell 25,b.cell 26,b.cell 27,b.cell 28,b.cell 29,b.cell 30,b.cell 31⟩
theorem Hx{P:Nat->Prop}(h0:P 0)(h1:P 1)(h2:P 2)(h3:P 3)(h4:P 4)(h5:P 5)(h6:P 6)(h7:P 7)(h8:P 8)(h9:P 9)(h10:P 10)(h11:P 11)(h12:P 12)(h13:P 13)(Iw:P 14)(h15:P 15)(h16:P 16):∀g,g<17->P g
 |0,_=>h0|1,_=>h1|2,_=>h2|3,_=>h3|4,_=>h4|5,_=>h5|6,_=>h6|7,_=>h7|8,_=>h8|9,_=>h9|10,_=>h10|11,_=>h11|12,_=>h12|13,_=>h13|14,_=>Iw|15,_=>h15|16,_=>h16
 |_+17,h=>absurd h qd
theorem Xs(A:KA)(M:KS):∀g,g<17->(kR A M)[8+g]? =I (M.fly g):=Hx R R R R R R R R R R R R R R R R rfl
theorem Xt(A:KA)(M:KS)(v:Int):∀g,g<17->(kR A M).setIfInBounds (8+g) (I v)=kR A { M with fly:=λj=>if j=g then v else M.fly j } :=Hx R R R R R R R R R R R R R R R R rfl
theorem KM.Ci(h:KM A w M){g:Nat}(hg:g<17):w.cell? (A.kb,8+g)=I (M.fly g):=by rw [h.k.1.cell];exact Xs A M g hg
theorem Md.jm{cl:Nat->Nat}{p:Addr}(hc:p.block<w.heap.size->cl p.block∈js)(v:Value):Md cl js w (w.setCell p v):=
 ⟨R,R,R,qbt,λk hk hj=>XAN w p v k λe=>hj (by rw [e] at hk ⊢;exact hc hk)⟩
theorem KM.J7(h:KM A w M)(hm:Md M.cl [1] w w'){fly:Nat->Int}{now:Int}(hb:ak w' A.kb 58 (kR A { M with fly:=fly,now:=now })):KG [1] A M { M with fly:=fly,now:=now } w w':=by
 have m:=Mv.same hm h.new;exact⟨⟨h.gn.mv m qf,⟨hb,h.k.2⟩,h.tr.mv m qf qf,h.ch.mv m qf,h.st.mv m qf,h.ow.mv m qf,h.zn.mv m qf qf qf qf,h.gr.mv m qf qf,h.cs.mv h.ok.cs m ql,h.hs.mv m qf,h.fr.mv m qf,
  λi hi=>(h.fa i hi).mv m qj qj,h.ds.mv m qf qf,h.sc.mv m qf,m.new,⟨h.ok.c1,h.ok.c8,h.ok.zC,h.ok.gP,h.ok.ag,h.ok.zq,h.ok.cs,h.ok.hs,h.ok.ds,h.ok.hc,h.ok.ac,h.ok.al,h.ok.fh,h.ok.fl,h.ok.bu,h.ok.kl,h.ok.ko,h.ok.gi⟩⟩,hm,λk hk=>rfl⟩
theorem KM.zk(h:KM A w M){g:Nat}(hg:g<17)(v:Int):KG [1] A M { M with fly:=λj=>if j=g then v else M.fly j } w (w.setCell (A.kb,8+g) (I v)):=
 h.J7 (now:=M.now) (Md.jm (λ_=>by rw [h.k.2];decide) _) (by have:=h.k.1.aJ (8+g) (I v);rw [Xt A M v g hg] at this;exact this)
theorem KM.KQ(h:KM A w M)(v:Int):KG [1] A M { M with now:=v } w (w.setCell (A.kb,31) (I v)):=
 h.J7 (fly:=M.fly) (Md.jm (λ_=>by rw [h.k.2];decide) _) (h.k.1.aJ 31 (I v))
def aL(fr:Nat->Fm)(i:Nat)(f:Fm):Nat->Fm:=λj=>if j=i then f else fr j
theorem b_{fr:Nat->Fm}{f:Fm} :aL fr i f i=f:=XAE rfl
theorem cP{fr:Nat->Fm}{f:Fm}{j:Nat}(h:j≠i):aL fr i f j=fr j:=XAD h
theorem Eb{fr:Nat->Fm}{f g:Fm} :aL (aL fr i f) i g=aL fr i g:=by funext j;unfold aL;split<;>rfl
theorem LZ{fr:Nat->Fm} :aL fr i (fr i)=fr:=by funext j;unfold aL;split;rename_i e;rw [e];rfl
structure j9(A:KA)(M:KS)(i:Nat)(f:Fm):Prop where
 ac:∀a∈f.acts,dn M.cs.length M.hs.length M.tn M.G a
 al:f.acts.length<=30*M.s
 fh:∀h∈f.hs,h<M.hs.length
 fl:f.hs.length<=30*M.s
 bu:f.busy=true->f.next<(A.K i).length
theorem KM.H_(h:KM A w M)(hi:i<A.C):j9 A M i (M.fr i):=⟨h.ok.ac i hi,h.ok.al i hi,h.ok.fh i hi,h.ok.fl i hi,h.ok.bu i hi⟩
theorem jz.tQ(h:jz A M){f:Fm}(hf:j9 A M i f):jz A { M with fr:=aL M.fr i f } :=by
 refine⟨h.c1,h.c8,h.zC,h.gP,h.ag,h.zq,h.cs,h.hs,h.ds,h.hc,λj hj=>?_,λj hj=>?_,λj hj=>?_,λj hj=>?_,λj hj=>?_,h.kl,h.ko,h.gi⟩<;>
 .show _;dsimp only;by_cases e:j=i
  .subst e;simp only [b_];first|exact hf.ac|exact hf.al|exact hf.fh|exact hf.fl|exact hf.bu
  .simp only [cP e];first|exact h.ac j hj|exact h.al j hj|exact h.fh j hj|exact h.fl j hj|exact h.bu j hj
theorem KM.tQ(h:KM A w M)(hm:Md M.cl [10] w w')(hi:i<A.C){f:Fm}(hr:aG w' A.fb 159 (bM A.C λj=>bf (aL M.fr i f j)))(hf:gF M.cl w i f)(hk:j9 A M i f):KG [10] A M { M with fr:=aL M.fr i f } w w':=by
 have m:=Mv.same hm h.new;refine⟨⟨h.gn.mv m qf,h.k.mv m qf,h.tr.mv m qf qf,h.ch.mv m qf,h.st.mv m qf,h.ow.mv m qf,h.zn.mv m qf qf qf qf,h.gr.mv m qf qf,h.cs.mv h.ok.cs m ql,h.hs.mv m qf,⟨hr,h.fr.2⟩,
  λj hj=>?_,h.ds.mv m qf qf,h.sc.mv m qf,m.new,h.ok.tQ hk⟩,hm,λk hk=>rfl⟩
 show gF M.cl w' j (aL M.fr i f j);by_cases e:j=i
 .subst e;rw [b_];exact hf.mv m qj qj
 .rw [cP e];exact(h.fa j hj).mv m qj qj
theorem Hy(f:Fm):(bf f).length=12:=rfl
theorem KM.Hg(h:KM A w M)(hi:i<A.C)(j:Nat)(hj:j<12)(v:Value){f:Fm}(e:bf f=(bf (M.fr i)).set j v)(hf:gF M.cl w i f)(hk:j9 A M i f):KG [10] A M { M with fr:=aL M.fr i f } w (w.setCell (A.fb,i*12+j) v):=by
 refine h.tQ (Md.jm (λ_=>by rw [h.fr.2];decide) _) hi ?_ hf hk;have:=h.fr.1.set (i*12+j) v;rw [nJ (m:=12) (F:=λi=>bf (M.fr i)) (G:=λj=>bf (aL M.fr i f j)) (λ_=>rfl) (λ_=>rfl) hi hj (by show bf (aL M.fr i f i)=_;rw [b_,e]) (λk _ hk=>by show bf (aL M.fr i f k)=_;rw [cP hk])] at this;exact this
theorem KM.jF(h:KM A w M)(hi:i<A.C)(j:Nat)(hj:j<12):w.cell? (A.fb,i*12+j)=(bf (M.fr i))[j]? :=by
 have e:=kN (m:=12) (F:=λi=>bf (M.fr i)) (λ_=>rfl) A.C i j hi hj;obtain⟨u,hu⟩:∃u,(bf (M.fr i))[j]? =some u:=⟨_,XAO (by rw [Hy];exact hj)⟩;rw [hu];exact h.fr.1.cell _ u (e.trans hu)
structure EE(A:KA)(i:Nat)(f:Fm)(w:World):Prop where
 lt:A.fb<w.heap.size
 frz:∀j,w.frozen? ⟨A.fb,j,none⟩=false
 f0:w.cell? (A.fb,i*12)=some (nV f.next)
 f1:w.cell? (A.fb,i*12+1)=I f.aM
 f2:w.cell? (A.fb,i*12+2)=some (.bool f.busy)
 f3:w.cell? (A.fb,i*12+3)=some f.av
 f4:w.cell? (A.fb,i*12+4)=I f.ai
 f5:w.cell? (A.fb,i*12+5)=I f.aq
 f6:w.cell? (A.fb,i*12+6)=I f.pK
 f7:w.cell? (A.fb,i*12+7)=I f.pA
 f8:w.cell? (A.fb,i*12+8)=I f.pB
 f9:w.cell? (A.fb,i*12+9)=I f.pC
 f10:w.cell? (A.fb,i*12+10)=some f.hv
 f11:w.cell? (A.fb,i*12+11)=I f.e
theorem KM.dt(h:KM A w M)(hi:i<A.C):EE A i (M.fr i) w:=
 ⟨h.fr.1.lt,h.fr.1.frz,h.jF hi 0 qf,h.jF hi 1 qf,h.jF hi 2 qf,h.jF hi 3 qf,h.jF hi 4 qf,h.jF hi 5 qf,h.jF hi 6 qf,h.jF hi 7 qf,h.jF hi 8 qf,h.jF hi 9 qf,h.jF hi 10 qf,h.jF hi 11 qf⟩
theorem KM.gK(h:KM A w M)(hi:M.cs[i]? =some x):∃g cap,M.cv=.slice (g,0) M.cs.length cap/\M.cs.length<=cap/\w.cell? (g,i)=some (jo x)/\g<w.heap.size:=by
 have hl:=lt_of_some hi;have hown:=h.cs.1.1;obtain⟨k,hk⟩:∃k,M.cs.length=k+1:=⟨M.cs.length-1,qd⟩;have hown':=hown;rw [hk] at hown';obtain⟨g,cap,e⟩:=ownsRow_succ hown';rw [<-hk] at e;refine⟨g,cap,e,?_,?_,?_⟩
 .rw [e] at hown;exact lP hown
 .rw [e] at hown;exact(kU hown (by rw [XAa,hi];rfl)).1
 .rw [e] at hown;exact(nW hown).lt
structure Ex(x:Cc)(w:World):Prop where
 lt:x.cb<w.heap.size
 frz:∀j,w.frozen? ⟨x.cb,j,none⟩=false
 c0:w.cell? (x.cb,0)=I x.sp.s
 c1:w.cell? (x.cb,1)=I x.sp.a
 c2:w.cell? (x.cb,2)=I x.sp.f
 c3:w.cell? (x.cb,3)=I x.refs
 c4:w.cell? (x.cb,4)=some (.bool x.live)
 c5:w.cell? (x.cb,5)=I x.waits
 c6:w.cell? (x.cb,6)=some (.slice (x.pg,0) 32 x.zp)
 c9:w.cell? (x.cb,9)=I x.ly.st
 c11:w.cell? (x.cb,11)=I x.ly.ord
 c12:w.cell? (x.cb,12)=I x.ly.aq
 c14:w.cell? (x.cb,14)=some (.pointer (x.wb,0))
theorem KM.cw(h:KM A w M)(hi:M.cs[i]? =some x):Ex x w:=
 have b:=(h.cs.2 i x hi).blk
 ⟨b.lt,b.frozen,b.cell 0,b.cell 1,b.cell 2,b.cell 3,b.cell 4,b.cell 5,b.cell 6,b.cell 9,b.cell 11,b.cell 12,b.cell 14⟩
theorem lC{n:Nat}(hn:n<M.cs.length):∃x,M.cs[n]? =some x:=⟨_,XAO hn⟩
theorem KM.KU(h:KM A w M)(hi:M.cs[i]? =some x)(v:Int):KG [100+10*i] A M { M with cs:=M.cs.set i { x with refs:=v } } w (w.setCell (x.cb,3) (I v)):=by
 have hx:=h.cs.2 i x hi;have hm:Md M.cl [100+10*i] w (w.setCell (x.cb,3) (I v)):=Md.jm (λ_=>qgs) _;have m:=Mv.same hm h.new;exact h.rK hm hi ⟨hx.blk.aJ 3 _,hm.row hx.pg (by rw [hx.c1];simp),hx.pl,hx.pk,hx.cr.mv m qkg qkh qki qkj,hx.cC,hx.od,hx.qs,hx.ns,hx.c0,hx.c1,hx.c2,hx.c3,hx.c4,hx.c5⟩ R λk hk=>qiy
theorem KM.ZN(h:KM A w M)(hi:M.cs[i]? =some x)(v:Bool):KG [100+10*i] A M { M with cs:=M.cs.set i { x with live:=v } } w (w.setCell (x.cb,4) (.bool v)):=by
 have hx:=h.cs.2 i x hi;have hm:Md M.cl [100+10*i] w (w.setCell (x.cb,4) (.bool v)):=Md.jm (λ_=>qgs) _;have m:=Mv.same hm h.new;exact h.rK hm hi ⟨hx.blk.aJ 4 _,hm.row hx.pg (by rw [hx.c1];simp),hx.pl,hx.pk,hx.cr.mv m qkg qkh qki qkj,hx.cC,hx.od,hx.qs,hx.ns,hx.c0,hx.c1,hx.c2,hx.c3,hx.c4,hx.c5⟩ R λk hk=>qiy
theorem KM.KV(h:KM A w M)(hi:M.cs[i]? =some x)(v:Int):KG [100+10*i] A M { M with cs:=M.cs.set i { x with waits:=v } } w (w.setCell (x.cb,5) (I v)):=by
 have hx:=h.cs.2 i x hi;have hm:Md M.cl [100+10*i] w (w.setCell (x.cb,5) (I v)):=Md.jm (λ_=>qgs) _;have m:=Mv.same hm h.new;exact h.rK hm hi ⟨hx.blk.aJ 5 _,hm.row hx.pg (by rw [hx.c1];simp),hx.pl,hx.pk,hx.cr.mv m qkg qkh qki qkj,hx.cC,hx.od,hx.qs,hx.ns,hx.c0,hx.c1,hx.c2,hx.c3,hx.c4,hx.c5⟩ R λk hk=>qiy
theorem KM.DL(h:KM A w M)(hi:M.cs[i]? =some x){s:Nat}{v:Int}(hv: -1<=v/\v<=1023):KG [100+10*i+1] A M { M with cs:=M.cs.set i { x with P:=x.P.set s v } } w (w.setCell (x.pg,s) (I v)):=by
 have hx:=h.cs.2 i x hi;have hm:Md M.cl [100+10*i+1] w (w.setCell (x.pg,s) (I v)):=Md.jm (λ_=>by show M.cl x.pg∈_;rw [hx.c1];simp) _;have m:=Mv.same hm h.new;refine h.rK hm hi ⟨m.blk hx.blk (by show M.cl x.cb∉_;rw [hx.c0];simp),?_,by rw [XAk];exact hx.pl,λp hp=>?_,hx.cr.mv m qkg qkh qki qkj,hx.cC,hx.od,hx.qs,hx.ns,hx.c0,hx.c1,hx.c2,hx.c3,hx.c4,hx.c5⟩ R λk hk=>qiy
 .have:=hx.pg.set s (I v);rw [<-List.map_set] at this;exact this
 .rcases XEW hp with h1|h1
  .exact hx.pk p h1
  .rw [h1];exact hv
theorem KM.zt(h:KM A w M)(hi:M.cs[i]? =some x){s:Nat}(hs:s<32):∃p,x.P[s]? =some p/\w.cell? (x.pg,s)=I p/\ -1<=p/\p<=1023:=by
 have hx:=h.cs.2 i x hi;obtain⟨p,hp⟩:∃p,x.P[s]? =some p:=⟨_,XAO (by rw [hx.pl];exact hs)⟩;exact⟨p,hp,hx.pg.cell s _ (by rw [XAa,hp];rfl),hx.pk p (XAi hp)⟩
theorem yA{α:Type}{m:Nat}{f:α->List Value}(hm:∀a,(f a).length=m):∀{l:List α}{n:Nat}{a:α}{j:Nat},l[n]? =some a->j<m->(l.flatMap f)[n*m+j]? =(f a)[j]?
 | [],n,_,_,h,_=>qer
 |b::l,0,a,j,h,hj=>by simp at h;subst h;rw [XBK,Nat.zero_mul,XAV,XB0 (by rw [hm];exact hj)]
 |b::l,n+1,a,j,h,hj=>by rw [XBK,XBy (by rw [hm,XCK];omega),hm,show(n+1)*m+j-m=n*m+j by rw [XCK];omega];exact yA hm qjy hj
theorem Hw{α:Type}{m:Nat}{f:α->List Value}(hm:∀a,(f a).length=m){v:Value}{a':α} :∀{l:List α}{n:Nat}{a:α}{j:Nat},l[n]? =some a->j<m->f a'=(f a).set j v->(l.flatMap f).set (n*m+j) v=(l.set n a').flatMap f
 | [],n,_,_,h,_,_=>qer
 |b::l,0,a,j,h,hj,e=>by simp at h;subst h;rw [XBK,Nat.zero_mul,XAV,List.set_append_left _ _ (by rw [hm];exact hj),List.set_cons_zero,XBK,e]
 |b::l,n+1,a,j,h,hj,e=>by rw [XBK,List.set_append_right _ _ (by rw [hm,XCK];omega),hm,show(n+1)*m+j-m=n*m+j by rw [XCK];omega,List.set_cons_succ,XBK,Hw hm qjy hj e]
structure Fi(g n:Nat)(x:Hn)(w:World):Prop where
 lt:g<w.heap.size
 frz:∀j,w.frozen? ⟨g,j,none⟩=false
 h0:w.cell? (g,n*5)=some (nV x.ca)
 h1:w.cell? (g,n*5+1)=I x.sl
 h2:w.cell? (g,n*5+2)=I x.ob
 h3:w.cell? (g,n*5+3)=I x.gr
 h4:w.cell? (g,n*5+4)=some (.bool x.out)
theorem KM.hav(h:KM A w M){n:Nat}(hn:n<M.hs.length):∃g cap,M.hv=.slice (g,0) M.hs.length cap/\M.hs.length<=cap/\∀k y,M.hs[k]? =some y->Fi g k y w:=by
 have hown:w.ownsRow 0 68 5 M.hv M.hs.length (M.hs.flatMap cB):=h.hs.1;obtain⟨k,hk⟩:∃k,M.hs.length=k+1:=⟨M.hs.length-1,qd⟩;have hown':=hown;rw [hk] at hown';obtain⟨g,cap,e⟩:=ownsRow_succ hown';rw [<-hk] at e;rw [e] at hown;have hr:=nW hown;have hc:∀k y j,M.hs[k]? =some y->j<5->∀u,(cB y)[j]? =some u->w.cell? (g,k*5+j)=some u:=λk y j hy hj u hu=>hr.cell _ _ ((yA (m:=5) (f:=cB) (λ_=>rfl) hy hj).trans hu);exact⟨g,cap,e,lP hown,λk y hy=>⟨hr.lt,hr.frz,hc k y 0 hy qf _ R,hc k y 1 hy qf _ R,hc k y 2 hy qf _ R,hc k y 3 hy qf _ R,hc k y 4 hy qf _ R⟩⟩
theorem jz.hset(h:jz A M){n:Nat}{y z:Hn}(hn:M.hs[n]? =some y)(e:z.ca=y.ca):jz A { M with hs:=M.hs.set n z } :=by
 have hl:(M.hs.set n z).length=M.hs.length:=XAk ..;refine⟨h.c1,h.c8,h.zC,h.gP,h.ag,h.zq,h.cs,by show(M.hs.set n z).length<=_;rw [hl];exact h.hs,h.ds,λx hx=>?_,λi hi a ha=>by show dn _ (M.hs.set n z).length _ _ a;rw [hl];exact h.ac i hi a ha,h.al,λi hi k hk=>by show k<(M.hs.set n z).length;rw [hl];exact h.fh i hi k hk,h.fl,h.bu,h.kl,h.ko,h.gi⟩;rcases XEW hx with h1|h1
 .exact h.hc x h1
 .rw [h1,e];exact h.hc y (XAi hn)
theorem KM.hcell(h:KM A w M){n j g:Nat}{cap:Nat}{y z:Hn}(hg:M.hv=.slice (g,0) M.hs.length cap)(hn:M.hs[n]? =some y)(hj:j<5)(e:z.ca=y.ca){v:Value}(ez:cB z=(cB y).set j v):KG [9] A M { M with hs:=M.hs.set n z } w (w.setCell (g,n*5+j) v):=by
 have hown:Own M.cl 9 w 68 5 M.hv M.hs.length (M.hs.flatMap cB):=h.hs;have vR:=(hown.2 g (by rw [hg];rfl)).2;have hm:Md M.cl [9] w (w.setCell (g,n*5+j) v):=Md.jm (λ_=>by show M.cl g∈_;rw [vR];simp) _;have m:=Mv.same hm h.new;refine⟨⟨h.gn.mv m qf,h.k.mv m qf,h.tr.mv m qf qf,h.ch.mv m qf,h.st.mv m qf,h.ow.mv m qf,h.zn.mv m qf qf qf qf,h.gr.mv m qf qf,h.cs.mv h.ok.cs m ql,?_,h.fr.mv m qf,
  λi hi=>(h.fa i hi).mv m qj qj,h.ds.mv m qf qf,h.sc.mv m qf,m.new,h.ok.hset hn e⟩,hm,λk hk=>rfl⟩
 show Own M.cl 9 _ _ 5 M.hv (M.hs.set n z).length ((M.hs.set n z).flatMap cB);rw [XAk,<-Hw (m:=5) (f:=cB) (λ_=>rfl) hn hj ez];refine⟨?_,λg' hg'=>⟨by simpa [World.setCell] using (hown.2 g' hg').1,(hown.2 g' hg').2⟩⟩;rw [hg] at hown ⊢;exact KO hown.1 _ _
end
theorem aaN(i n:Int):(i.tmod n+n) % n=i % n:=by
 rw [Int.add_emod_right];have e:i.tmod n=i-n*(i.tdiv n):=by have:=Int.mul_tdiv_add_tmod i n;omega
 rw [e,Int.sub_mul_emod_self_left]
theorem lM(i n:Int)(hn:1<=n)(hn':n<=4611686018427387904)(w:World):Z 118 #[I i,I n] w λe w'=>e=.returned (I (i % n))/\w'=w:=by
 have hb:=LP (i:=i) hn;have hf:=XAA (aaN i n);have hl: -n<i.tmod n:=hb.1;go_enter func118,ntmps118;go_wp2;go_ret;exact⟨wQ hf.out,R⟩
section
variable{A:KA}{M M1 M2:KS}{w w' w2:World}{i k:Nat}{x y:Cc}
theorem pz(h:KM A w M):Z 12 #[(A.kb,0)] w λe w'=>e=.returned (.bool false)/\w'=w:=by
 have k29:=h.rd.k29;have hsn:∀w:World,(binOp .eql 55 (.slice (A.fb,0) A.C A.C) (.slice none 0 0)).run prog w=.ok (.bool false) w:=λw=>XEI w 55 159 (some ⟨A.fb,0,none⟩) A.C A.C 0 0 qu;clear h;go_enter func12,ntmps12;go_wp2;go_ret;exact⟨R,R⟩
def dI(A:KA)(M:KS)(k:Nat):Bool:=(M.fr k).busy||decide ((M.fr k).next<(A.K k).length)
theorem KM.calls(h:KM A w M)(hk:k<A.C):∃B c,A.V k=.slice B (A.K k).length c/\(A.K k).length<=c/\w.cell? (A.aK,k)=some (.slice B (A.K k).length c):=by
 have hown:=(h.sc.2.2 k hk).1;have hc:w.cell? (A.aK,k)=some (A.V k):=h.sc.1.cell k _ qgz;rcases hown.2 with⟨e,e2⟩|⟨g,cap,cur,e,h4,h5,h6⟩
 .refine⟨none,0,by rw [e,e2],qd,by rw [hc,e,e2]⟩
 .exact⟨_,cap,e,by rw [e] at hown;exact lP hown,by rw [hc,e]⟩
theorem Dr(h:KM A w M)(hk:k<A.C):Z 59 #[(A.kb,0),I k] w λe w'=>e=.returned (.bool (dI A M k))/\Below w w w':=by
 obtain⟨B,c,-,hBc,hB⟩:=h.calls hk;have hc8:=h.ok.c8;have hcl:=h.sc.1.lt;have hr:=h.rd;obtain⟨a8,-,k0,k2,-,-,-,-,-,-,-,-,k29,-,-⟩:=hr;obtain⟨cL,-,f0,-,f2,-⟩:=h.dt hk;have a1:¬(k:Int)<0:=qd
 have a2:¬(A.C:Int)<=(k:Int):=qd;have HC:=XAA h;unfold dI;generalize (A.K k).length=n at*;generalize (M.fr k).next=nx at*
 cases hbu:(M.fr k).busy with
 |true=>
  rw [hbu] at f2;clear h hbu;go_enter func59,ntmps59;go_wp2_with (go_at_call 12;refine Xr (pz HC.out) ?_);(refine ba (w.heap.size) (λhxc aA hxh hxn=>?_);(repeat (first|go_big_quiet_step (fail)|quiet_step (fail)));refine XAG ?_;clear hxc aA hxh hxn;intro w1 hb1 hz1 hc1 hf1);go_wp2;go_ret;exact⟨R,hb1⟩
 |false=>
  rw [hbu] at f2;clear h hbu;have hd:decide ((nx:Int)<(n:Int))=decide (nx<n):=ql
  go_enter func59,ntmps59;go_wp2_with (go_at_call 12;refine Xr (pz HC.out) ?_);(refine ba (w.heap.size) (λhxc aA hxh hxn=>?_);(repeat (first|go_big_quiet_step (fail)|quiet_step (fail)));refine XAG ?_;clear hxc aA hxh hxn;intro w1 hb1 hz1 hc1 hf1);go_wp2;go_ret;exact⟨R,hb1⟩
def Dy(cs:List Cc)(n:Nat):Bool:=match cs[n]? with
 |some x=>x.live
 |none=>false
def findF(M:KS)(a:Int):Nat × Int:=if M.cs.length=0 then(0,290) else if Dy M.cs (a % M.cs.length).toNat=true then((a % M.cs.length).toNat,0) else(0,290)
theorem Cf{a:Int}(h:(findF M a).2=0):(findF M a).1<M.cs.length:=by
 unfold findF at h ⊢;by_cases h1:M.cs.length=0
 .rw [XAE h1] at h;cases h
 .rw [XAD h1] at h ⊢;have h2:=XBW a (show(0:Int)<M.cs.length from qd);have h3:=XBH a (show(M.cs.length:Int)≠0 from qd);split
  .show(a % (M.cs.length:Int)).toNat<_;omega
  .show 0<_;omega
theorem yY(h:KM A w M)(a:Int):Z 122 #[(A.kb,0),I a] w λe w'=>e=.returned (.tuple #[nV (findF M a).1,I (findF M a).2])/\Below w w w':=by
 obtain⟨a8,-,-,-,-,-,-,-,-,-,k27,-⟩:=h.rd;have hc8:=h.ok.cs;by_cases h0:M.cs.length=0
 .have e:findF M a=(0,290):=by unfold findF;rw [XAE h0]
  rw [e];have hv:M.cv=.slice none 0 0\/∃g cap,M.cv=.slice (some ⟨g,0,none⟩) 0 cap:=by
   rcases h.cs.1.1.2 with⟨e1,-⟩|⟨g,cap,cur,e1,-⟩
   .exact .inl e1
   .exact .inr ⟨g,cap,by rw [e1,h0]⟩
  obtain⟨B,c,hv⟩:∃B c,M.cv=.slice B 0 c:=by rcases hv with h|⟨g,c,h⟩;exact⟨_,_,h⟩;exact⟨_,_,h⟩
  rw [hv] at k27;clear h e;go_enter func122,ntmps122;go_wp2
  go_ret2
  exact⟨R,XAC _ _⟩
 .obtain⟨n,hn⟩:=Xq M.cs.length;have h2:=XBW a (show(0:Int)<n from qd);have h3:=XBH a (show(n:Int)≠0 from qd);obtain⟨i,hi⟩:∃i:Nat,a % (n:Int)=i:=⟨(a % (n:Int)).toNat,qd⟩;have hi':i<n:=by omega
  obtain⟨x,hx⟩:=lC (M:=M) (n:=i) qd;obtain⟨g,cap,hv,hcap,hg,hgl⟩:=h.gK hx;obtain⟨xlt,-,-,-,-,-,c4,-⟩:=h.cw hx;rw [hn] at hv hcap;rw [hv] at k27;have hw:=λW=>XAA (lM a n qd qd W);have b0:((n:Int)==0)=false:=qj
  have a1:¬(i:Int)<0:=qd;have a2:¬n<=i:=qd;have e:findF M a=if x.live=true then(i,0) else(0,290):=by unfold findF Dy;rw [XAD h0,hn,hi,XBQ,hx]
  rw [e];rw [hi] at hw;clear h e hi h2 h3 hv hx;cases hl:x.live with
  |true=>
   rw [hl] at c4;clear hl;go_enter func122,ntmps122;go_wp2_with (go_at_call 118;refine(hw _).out.mono ?_;rintro e w0 ⟨rfl,hw0⟩;replace hw0:=hw0.symm;subst hw0)
   go_ret2
   exact⟨R,XAC _ _⟩
  |false=>
   rw [hl] at c4;clear hl;go_enter func122,ntmps122;go_wp2_with (go_at_call 118;refine(hw _).out.mono ?_;rintro e w0 ⟨rfl,hw0⟩;replace hw0:=hw0.symm;subst hw0)
   go_ret2
   exact⟨R,XAC _ _⟩
theorem pD(h:KM A w M)(hk:k<A.C)(one:Int):Z 117 #[(A.kb,0),I k,I one] w λe w'=>e=.returned (.bool ((k:Int)==one|| !dI A M k))/\Below w w w':=by
 have HC:=XAA h;cases h1:((k:Int)==one) with
 |true=>
  clear h;go_enter func117,ntmps117;go_wp2;go_ret;exact⟨R,XAC _ _⟩
 |false=>
  clear h;go_enter func117,ntmps117;go_wp2_with (go_at_call 59;refine(Dr HC.out hk).mono ?_;rintro e w1 ⟨rfl,hb⟩);go_ret;exact⟨R,hb⟩
end
theorem wP{n:Nat}{G:Nat->Gp}(h:ml n G)(x:Int):∀y∈c_ G (cf n x),1<=y/\y<=n:=by
 unfold cf;split
 .exact(KZ h _ qd).1
 .intro y hy;cases hy
section
variable{A:KA}{M M1 M2:KS}{w w' w2:World}{i k:Nat}{x y:Cc}
theorem Row.kg{js:List Nat}{B:Option Addr}{xs:List Value}(hr:Row w B xs)(h:KG js A M M1 w w')(d:0∉js)(hB:0<xs.length->∀g off,B=some ⟨g,off,none⟩->M.cl g=0):Row w' B xs:=
 Row.md hr h.md λhp g off e=>by rw [hB hp g off e];exact d
theorem sr{base:Nat}{e:TypeId}{n c:Nat}{B:Option Addr}{xs:List Value}(h:w.ownsRow base e 1 (.slice B n c) n xs):∀g off,B=some ⟨g,off,none⟩->base<=g/\off=0:=λg off hB=>by
 rcases h.2 with⟨e1,-⟩|⟨g',cap,cur,e1,h4,-⟩
 .rw [hB] at e1;cases e1
 .rw [hB] at e1;injection e1 with e1 _ _;injection e1 with e1;injection e1 with e1 e2 _;exact⟨qd,qd⟩
theorem uc(h:KM A w M)(g n:Int):Z 100 #[(A.kb,4),I g,I n] w λe w'=>e=.returned (.tuple #[])/\∃f,KG [1] A M { M with fly:=f } w w':=by
 have k4:=h.rd.k4;have hnew:=h.new;have hP:∀x∈c_ M.G (cf M.tn g),1<=x/\x<=16:=λx hx=>by have:=wP h.tr.ok g x hx;have:=h.tr.ok.n2;omega
 have vT:=XAL (sx h.tr.ok g) h.tr.ok.n2;have HC:=XAA h;generalize hp:c_ M.G (cf M.tn g)=P at hP vT;obtain⟨m,hm⟩:=Xq P.length;rw [hm] at vT;have uV:=XAA hm;have HP:=XAA hP;have xE:=XAA hp;clear h hP hp hm;go_enter func100,ntmps100;go_wp2_with (go_at_call 98;refine(uB _ HC.out.tr g).mono ?_;rintro e w1 ⟨v,rfl,ho,hb⟩;rw [xE.out,uV.out] at ho;obtain⟨B,c,rfl,hr⟩:=Row.slice ho;have hB:=sr ho;have HO:=XAA ho;have HB:=XAA hB;have HR:=XAA hr;have aS:=XAA (KG.of_below [1] HC.out hb);clear ho hB hr hb k4);go_loopw [7,15] (λ_ z wr=>∃(i:Nat)(f:Nat->Int),z=I i/\i<=m/\KG [1] A M { M with fly:=f } w wr/\KG [1] A M { M with fly:=f } w1 wr) (λ_ z _=>m-(intOf z).toNat)
 case atStart=>exact⟨0,M.fly,R,XAJ _,aS.out,KG.refl _ aS.out.km⟩
 case round=>
  obtain⟨i,f,rfl,him,hk,hk1⟩:=hrel;have HK:=XAA hk;have aW:=XAA hk1;have hlt0:=hk.km.rd.lt;clear hk hk1;by_cases hi:i<m
  .obtain⟨x,hx⟩:∃x,P[i]? =some x:=⟨_,XAO qii⟩;have hx16:=HP.out x (XAi hx);have hrow:Row wr B (P.map nV):=Row.kg HR.out aW.out qf λ_ g off e=>hnew g (HB.out g off e).1;obtain⟨g0,off,rfl,hg0,hcx⟩:=hrow.at_ (k:=i) qee;have hoff:=(HB.out g0 off R).2;subst hoff;have ex:(P.map nV)[i]' qee=nV x:=by
    rw [XCj];congr 2;exact XAl ((XAO qii).symm.trans hx)
   rw [ex,XAV] at hcx;have hfl:=HK.out.km.Ci (g:=x) qd;have b1:(i:Int)<(m:Int):=qd
   have b2:¬(x:Int)<0:=qd;have b3:¬17<=x:=qd;have HX:=XAA hx;clear hx ex hrow;go_wp2;(refine bN 11 (wr.heap.size) ?_;intro hxc aA hxh hxn;simp only [List.take,List.drop];(repeat (first|go_big_quiet_step (fail)|quiet_step (fail)));refine XAG ?_;clear hxc aA hxh hxn;intro w1 hb1 hz1 hc1 hf1);have hfz:=HK.out.km.rd.frz (8+x);go_wp2;go_roundw
   case rel=>
    refine⟨i+1,_,qbf,hi,(HK.out.eZ hb1).trans (KM.zk (HK.out.km.below hb1) (g:=x) qd _),(aW.out.eZ hb1).trans (KM.zk (HK.out.km.below hb1) (g:=x) qd _)⟩
   case measure=>simp [intOf];omega
  .obtain rfl:i=m:=by omega
   go_wp2;go_end0;exact⟨R,f,HK.out⟩
theorem Dp(h:KM A w M)(g n:Int):Z 113 #[(A.kb,4),I g,I n] w λe w'=>e=.returned (.tuple #[])/\KG [3] A M M w w':=by
 have k4:=h.rd.k4;have hnew:=h.new;have vT:=XAL (sx h.tr.ok g) h.tr.ok.n2;have HC:=XAA h;generalize hp:c_ M.G (cf M.tn g)=P at vT;obtain⟨hr0,kP⟩:=Xq (kO M.tn M.G P);obtain⟨m,hm⟩:=Xq P.length;rw [hm] at vT;have uV:=XAA hm;have xE:=XAA hp;have Nj:=XAA kP;clear h hp hm kP;go_enter func113,ntmps113;go_wp2_with (first|(go_at_call 111;refine(Ab _ HC.out.tr g).mono ?_;rintro e w0 ⟨rfl,hb0⟩;rw [xE.out,Nj.out];have bP:=XAA (HC.out.below hb0);have HB0:=XAA hb0;have Db:=bP.out.rd.k4;have hz0:=hb0.size;clear hb0 k4)|(go_at_call 98;refine(uB _ bP.out.tr g).mono ?_;rintro e w1 ⟨v,rfl,ho,hb⟩;rw [xE.out,uV.out] at ho;obtain⟨B,c,rfl,hr⟩:=Row.slice ho;have hB:=sr ho;have HO:=XAA ho;have HB:=XAA hB;have HR:=XAA hr;have aS:=XAA (KG.of_below [3] HC.out (bB HB0.out hb));clear ho hB hr hb Db));go_loopw [8,22] (λ_ z wr=>∃i:Nat,z=I i/\i<=m/\KG [3] A M M w wr/\KG [3] A M M w1 wr) (λ_ z _=>m-(intOf z).toNat)
 case atStart=>exact⟨0,R,XAJ _,aS.out,KG.refl _ aS.out.km⟩
 case round=>
  obtain⟨i,rfl,him,hk,hk1⟩:=hrel;have HK:=XAA hk;have aW:=XAA hk1;have hlt0:=hk.km.rd.lt;have k5:=hk.km.rd.k5;clear hk hk1;by_cases hi:i<m
  .obtain⟨x,hx⟩:∃x,P[i]? =some x:=⟨_,XAO qii⟩;have hrow:Row wr B (P.map nV):=Row.kg HR.out aW.out qf λ_ g off e=>hnew g (XAL hz0 (HB.out g off e).1);obtain⟨g0,off,rfl,hg0,hcx⟩:=hrow.at_ (k:=i) qee;have hoff:=(HB.out g0 off R).2;subst hoff;have ex:(P.map nV)[i]' qee=nV x:=by
    rw [XCj];congr 2;exact XAl ((XAO qii).symm.trans hx)
   rw [ex,XAV] at hcx;have b1:(i:Int)<(m:Int):=qd
   clear hx ex hrow;by_cases he:x=hr0
   .subst he;go_wp2;refine Xe ?_;exact⟨R,HK.out⟩
   .have b2:((x:Int)==(hr0:Int))=false:=by simp;omega
    go_wp2_with (go_at_call 104;refine(J1 HK.out.km (x:Int) n).mono ?_;rintro e w5 ⟨r,rfl,hk5⟩;have bm:=XAA hk5;clear hk5);go_roundw
    case rel=>exact⟨i+1,qbf,hi,HK.out.trans bm.out,aW.out.trans bm.out⟩
    case measure=>simp [intOf];omega
  .obtain rfl:i=m:=by omega
   go_wp2;go_end0;exact⟨R,HK.out⟩
end
theorem Jy:(prog.info? 20).map (λi=>(i.zero,i.size,i.bytes))=some (some .nilIface,1,16):=qh
def Mt(w:World)(l:List Value)(n:Nat)(e:Ending)(w':World):Prop:=∃v,e=.returned v/\w'.ownsRow w.heap.size 20 1 v n l/\Below w w w'
theorem Pj(w:World):Z 162 #[.slice none 0 0,I 0] w λe w'=>e=.returned (.slice none 0 0)/\w'=w:=by
 go_enter func162,ntmps162;go_wp2;go_ret;exact⟨R,R⟩
theorem Ph(n:Nat)(hn:0<n)(hn':n*16<=140737488355328)(w:World):Z 162 #[.slice none 0 0,I n] w λe w'=>
  ∃v,e=.returned v/\w'.ownsRow w.heap.size 20 1 v 0 []/\Below w w w':=by
 obtain⟨i0,hi,hz0,hz1,hz2⟩:=XA4 Jy;have hrun:=XAA (Go.Lib.run_append_nil_zeros (P:=prog) w 155 3 155 20 i0 .nilIface .i64 .i64 XD6 XAW hi hz0 n hn (by rw [hz1];omega) qd (by rw [hz2];omega));have hge:=grownCap_ge w n 0 20;have hle:=grownCap_le_maxLen w n 0 20 qw;obtain⟨C,hC⟩:=Xq (grownCap w n 0 20);rw [hC] at hrun hge hle;clear hC hi hz0 hz1 hz2;have j0:(0:Int)<(n:Int):=qd
 unfold maxLen at hle;go_enter func162,ntmps162;go_wp2_with (first|(at_builtin;refine Go.Lib.wpList_append_run _ R _ _ _ _ R _ _ R R _ _ hrun.out ?_));go_ret;exact⟨_,R,(XEP w _ C (XAB _) qw (by simp [size_zeroCells];omega)).drew,qa⟩
theorem Pf(n:Nat)(z:Int)(ez:(n:Int)=z)(hn':n*16<=140737488355328)(w:World):Z 162 #[.slice none 0 0,I z] w λe w'=>
  ∃v,e=.returned v/\w'.ownsRow w.heap.size 20 1 v 0 []/\Below w w w':=by
 subst ez;rcases XAr n with h0|hp
 .subst h0;exact(Pj w).mono λe w' ⟨he,hw⟩=>⟨_,he,by rw [hw];exact XBk _ _ _ _,by rw [hw];exact XAC _ _⟩
 .exact Ph n hp hn' w
theorem O4(l m:List Value)(h1:∀u∈l,u.oneCell'=true)(h2:∀u∈m,u.oneCell'=true)(A B:Option Addr)(n k c d q:Nat)(w:World)(hn:Hid (l.length=n))(hk:Hid (m.length=k))(hs:(n+k)*16<=140737488355328)(hA:Row w A l)(hB:Row w B m)
 (q0:w.cell? (q,0)=some (.slice A n c))(q1:w.cell? (q,1)=some (.slice B k d)):
  Z 114 #[.slice (q,0) 2 2] w (Mt w (l++m) (n+k)):=by
 obtain⟨i0,hi,hz0,hz1,hz2⟩:=XA4 Jy;have I0:=XAA hi;have I1:=XAA hz0;have I2:=XAA hz1;have I3:=XAA hz2;have HA:=XAA hA;have HB:=XAA hB;have Q0:=XAA q0;have Q1:=XAA q1;clear hi hz0 hz1 hz2 hA hB;go_enter func114,ntmps114;go_wp2;refine XCB 3 ?_;rw [XA3];go_wp2_with fail;rw [XA3];go_wp2_with fail;rw [XA3];go_wp2_with (first|(go_at_call 162;refine(Pf (n+k) _ qd hs _).mono ?_;rintro e w1 ⟨v1,rfl,ho1,hb1⟩));have z1:=hb1.size;have q0':=cell_below hb1 Q0.out;have q1':=cell_below hb1 Q1.out;have R1:=XAA (Row.reads (HA.out.below hb1) hn.out);have O1:=XAA ho1;clear q0 q1 ho1;refine XCB 3 ?_;rw [XA3];go_wp2_with (first|(at_builtin;refine uE _ R _ _ 155 R w.heap.size 20 i0 .nilIface 1 16 XD6 I0.out I1.out I2.out I3.out R qf _ 0 [] R O1.out _ _ n _ l R R1.out h1 qw qd qd ?_;intro v2 w2 ho2 hg hq;clear hq));have hb2:=vi hb1 hg O1.out z1 (XAB _);have z2:=hb2.size;have DS:=cell_below hb2 Q1.out;have R2:=XAA (Row.reads (HB.out.below hb2) hk.out);have O2:=XAA ho2;clear q0' q1' ho2 hg R1;rw [XA3];go_wp2_with (first|(at_builtin;refine uE _ R _ _ 155 R w.heap.size 20 i0 .nilIface 1 16 XD6 I0.out I1.out I2.out I3.out R qf _ (0+n) ([]++l) R O2.out _ _ k _ m R R2.out h2 qw qd qd ?_;intro v3 w3 ho3 hg hq;clear hq));have hb3:=vi hb2 hg O2.out z2 (XAB _);have O3:=XAA ho3;clear DS ho3 hg R2;rw [XA3];go_wp2_with fail;go_ret;exact⟨_,R,by simpa using O3.out,hb3⟩
section
variable{A:KA}{M M1 M2:KS}{w w' w2:World}{i k:Nat}{x y:Cc}
theorem Own.zX{cl:Nat->Nat}{c:Nat}{e:TypeId}{v:Value}{xs:List Value}(h:Own cl c w e 1 v xs.length xs):ie cl c w v xs:=by
 have hown:=h.1;rcases h.1.2 with⟨e1,e2⟩|⟨g,cap,cur,e1,-⟩
 .exact⟨none,0,by rw [e1];simp [XEv.2 (show xs.length=0 by simpa using e2)],by simp [show xs.length=0 by simpa using e2],by rw [XEv.2 (show xs.length=0 by simpa using e2)];exact Row.nil _ _,λ_ g off h=>qck⟩
 .rw [e1] at hown;exact⟨_,cap,e1,lP (own_base hown).1,Row.gj hown,λ_ g' off e2=>(h.2 g' (by rw [e1];injection e2 with e2;injection e2 with e2 _ _;rw [e2];rfl)).2⟩
theorem KM.LO(h:KM A w M){e:TypeId}{size base n:Nat}{v:Value}{xs:List Value}(hv:w.ownsRow base e size v n xs)(h0:∀g,v.ownBlock=some g->M.cl g=0)(c:Nat):
  ∃c1,KM A w { M with cl:=c1 } /\Own c1 c w e size v n xs/\(∀j,M.cl j≠0->c1 j=M.cl j)/\(∀j,v.ownBlock≠some j->c1 j=M.cl j):=by
 have hv0:=(own_base hv).1;cases hb:v.ownBlock with
 |none=>exact⟨M.cl,h,⟨hv0,λg hg=>by rw [hb] at hg;cases hg⟩,λ_ _=>rfl,λ_ _=>rfl⟩
 |some g=>
  have hg:=cO hv0 hb;have hz:=h0 g hb;refine⟨λj=>if j=g then c else M.cl j,h.Li _ (λj _ hj=>XAD λe=>hj (by rw [e];exact hz)) (λj hj=>?_),⟨hv0,λg' hg'=>?_⟩,λj hj=>XAD λe=>hj (by rw [e];exact hz),λj hj=>XAD λe=>hj (by rw [e])⟩
  .rw [XAD qd];exact h.new j hj
  .rw [hb] at hg';have:g=g':=XAl hg';subst this;exact⟨hg,XAE R⟩
theorem KM.ZM(h:KM A w M)(hk:k<A.C){v:Value}{l:List Ac}(hv:ie M.cl (50+k) w v (l.map aF))(hl:∀a∈l,dn M.cs.length M.hs.length M.tn M.G a)(hn:l.length<=30*M.s):
  KG [10] A M { M with fr:=aL M.fr k { M.fr k with av:=v,acts:=l } } w (w.setCell (A.fb,k*12+3) v):=
 h.Hg hk 3 qf v (f:= { M.fr k with av:=v,acts:=l }) R ⟨hv,(h.fa k hk).2⟩ ⟨hl,hn,h.ok.fh k hk,h.ok.fl k hk,h.ok.bu k hk⟩
theorem j9.of{f:Fm}(h:j9 A M i f)(hM:M1.cs.length=M.cs.length)(h2:M1.hs.length=M.hs.length)(h3:M1.tn=M.tn)(h4:M1.G=M.G)(h5:M.s<=M1.s):j9 A M1 i f:=
 ⟨by rw [hM,h2,h3,h4];exact h.ac,by have:=h.al;omega,by rw [h2];exact h.fh,by have:=h.fl;omega,h.bu⟩
theorem FV(l:List Ac):∀u∈l.map aF,u.oneCell'=true:=λu hu=>by
 obtain⟨a,-,rfl⟩:=XBR.1 hu;rfl
def Oq(A:KA)(M:KS)(k:Nat)(l:List Ac)(w:World)(e:Ending)(w':World):Prop:=
 e=.returned (.tuple #[])/\∃(c1:Nat->Nat)(av:Value),KM A w' { M with cl:=c1,s:=M.s+1,fr:=aL M.fr k { M.fr k with av:=av,acts:=l++(M.fr k).acts } } /\KF [] M.cl c1 w w'
theorem wk(h:KM A w M)(hs:M.s<=30000)(hk:k<A.C)(l:List Ac)(B:Option Addr)(c n:Nat)(hn:l.length=n)(hB:Row w B (l.map aF))(hl:∀a∈l,dn M.cs.length M.hs.length M.tn M.G a)(adE:n<=20):
  Z 76 #[(A.fb,k*12),.slice B n c] w (Oq A M k l w):=by
 obtain⟨cL,-,-,-,-,f3,-⟩:=h.dt hk;have cj:=h.fr.1.frz (k*12+3);have hal:=h.ok.al k hk;obtain⟨B2,c2,hav,hc2,hr2,yL⟩:=(h.fa k hk).1;rw [hav,XAY] at f3;obtain⟨m,hm⟩:=Xq ((M.fr k).acts.length);rw [hm] at f3 hal;have HC:=XAA h;have HL:=XAA hl;have HN:=XAA hn;have HM:=XAA hm;have hcc:=λo=>XAA (O4 (l.map aF) ((M.fr k).acts.map aF) (FV _) (FV _) B B2 n m c c2 w.heap.size (w.alloc (.cells #[.slice B n c,.slice B2 m c2] o)) (XAA (by rw [XAY];exact hn)) (XAA (by rw [XAY];exact hm)) qd (hB.alloc _) (hr2.alloc _) ((ak.new w o #[.slice B n c,.slice B2 m c2]).cell 0) ((ak.new w o #[.slice B n c,.slice B2 m c2]).cell 1));clear h hl hn hm hav hc2 hr2 yL hB;go_enter func76,ntmps76;go_wp2_with (go_at_call 114;refine(hcc _).out.mono ?_;rintro e w1 ⟨v,rfl,ho,hb⟩;obtain⟨B3,c3,rfl,-⟩:=Row.slice ho;have hb1:=df hb;have hf1:=(Below.frozen hb1 (p:=⟨A.fb,k*12+3,none⟩) cL).trans cj;have hg1:=(Below.cell hb1 (p:=⟨A.fb,k*12+3,none⟩) cL).trans f3;have HO:=XAA ho;have HB:=XAA hb1;clear ho hb hb1);refine Xe ?_;have hb:=HB.out;obtain⟨v,hv⟩:=Xq (Value.slice B3 (n+m) c3);have ho:=HO.out;rw [hv] at ho ⊢;have h1:=HC.out.below hb;have hbase:=(own_base ho).2;have hz:∀g,v.ownBlock=some g->M.cl g=0:=λg hg=>HC.out.new g (by have:=hbase g hg;simp at this;omega);obtain⟨c1,h2,hown,hc1,hc2⟩:=h1.LO ho hz (50+k);have h3:=h2.more (s':=M.s+1) qeo;have el:(l.map aF++(M.fr k).acts.map aF)=(l++(M.fr k).acts).map aF:=by rw [XBB]
 have SR:n+m=((l++(M.fr k).acts).map aF).length:=by rw [XAY,XAZ,HN.out,HM.out]
 rw [el,SR] at hown;have h4:=h3.ZM (k:=k) hk (v:=v) (l:=l++(M.fr k).acts) hown.zX (λa ha=>by
  rcases XAe.1 ha with ha|ha
  .exact HL.out a ha
  .exact HC.out.ok.ac k hk a ha) (by rw [XAZ,HN.out,HM.out];show _<=30*(M.s+1);omega)
 refine⟨R,c1,v,h4.km,((KF.below [] M.cl hb).jZ (KF.KE (X:=v.ownBlock.toList) (aD:=c1) λj _ hj h0=>(hc2 j λe=>hj (by rw [e];simp)).trans h0) λj hj hlt=>?_).trans (h4.kf qf)⟩;have hj':v.ownBlock=some j:=by simpa using hj
 have:=hbase j hj';simp at this;omega
end
theorem fV:prog.underlying 155=some (.slice 20):=XD6
section
variable{A:KA}{M M1 M2:KS}{aD:Nat->Nat}{w w' w2:World}{js:List Nat}{i k:Nat}{x y:Cc}
theorem KM.fmv(h:KM A w M)(m:Mv js M.cl aD w w')(d:∀j∈js,j=10\/j=40+k\/j=50+k)(hk:k<A.C){f:Fm}(hr:aG w' A.fb 159 (bM A.C λj=>bf (aL M.fr k f j)))(hf:gF aD w' k f)(hok:j9 A M k f):KM A w' { M with cl:=aD,fr:=aL M.fr k f } :=by
 have hc8:=h.ok.c8;have n:∀j,j≠10->j≠40+k->j≠50+k->j∉js:=λj h1 h2 h3 hj=>by rcases d j hj with e|e|e<;>omega
 have n1:∀j,j<100->j≠10->(j<40\/60<=j)->j∉js:=λj h1 h2 h3=>n j h2 qd qd;have ok:=h.ok.tQ hok;refine⟨h.gn.mv m (n1 _ qf qf qf),h.k.mv m (n1 _ qf qf qf),h.tr.mv m (n1 _ qf qf qf) qf,h.ch.mv m (n1 _ qf qf qf),h.st.mv m (n1 _ qf qf qf),h.ow.mv m (n1 _ qf qf qf),
  h.zn.mv m (n1 _ qf qf qf) (n1 _ qf qf qf) (n1 _ qf qf qf) (n1 _ qf qf qf),h.gr.mv m (n1 _ qf qf qf) (n1 _ qf qf qf),h.cs.mv h.ok.cs m (λj hj=>by rcases d j hj with e|e|e<;>omega),h.hs.mv m (n1 _ qf qf qf),
  ⟨hr,m.at_ h.fr.1.lt h.fr.2 qf⟩,λj hj=>?_,h.ds.mv m (n1 _ qf qf qf) (n1 _ qf qf qf),h.sc.mv m (n1 _ qf qf qf),m.new,
  ⟨ok.c1,ok.c8,ok.zC,ok.gP,ok.ag,ok.zq,ok.cs,ok.hs,ok.ds,ok.hc,ok.ac,ok.al,ok.fh,ok.fl,ok.bu,ok.kl,ok.ko,ok.gi⟩⟩
 show gF aD w' j (aL M.fr k f j);by_cases e:j=k
 .subst e;rw [b_];exact hf
 .rw [cP e];exact(h.fa j hj).mv m (n _ qd qd qd) (n _ qd qd qd)
theorem Cy{C:Nat}{fr:Nat->Fm}{f:Fm}(hk:k<C)(j:Nat)(hj:j<12)(v:Value)(e:bf f=(bf (fr k)).set j v):(bM C λj=>bf (fr j)).set (k*12+j) v=bM C λj=>bf (aL fr k f j):=
 nJ (m:=12) (F:=λi=>bf (fr i)) (G:=λj=>bf (aL fr k f j)) (λ_=>rfl) (λ_=>rfl) hk hj (by show bf (aL fr k f k)=_;rw [b_,e]) (λj _ hj=>by show bf (aL fr k f j)=_;rw [cP hj])
def k_(M:KS)(k:Nat)(w:World):Prop:=Own M.cl (50+k) w 20 1 (M.fr k).av (M.fr k).acts.length ((M.fr k).acts.map aF)
theorem tx(ho:k_ M k w){w3:World}(hg:w.grownBy w3 (M.fr k).av.ownBlock){p:Addr}(hl:p.block<w.heap.size)(hc:M.cl p.block≠50+k):w3.cell? p=w.cell? p/\w3.frozen? p=w.frozen? p:=by
 have e:w3.heap[p.block]? =w.heap[p.block]? :=hg.block _ hl λe=>hc (ho.2 _ e.symm).2;exact⟨XAP (w:=w) e,XAh (w:=w) e⟩
theorem KM.PG(h:KM A w M)(ho:k_ M k w)(hk:k<A.C)(a:Ac)(ha:dn M.cs.length M.hs.length M.tn M.G a)(hn:(M.fr k).acts.length+1<=30*M.s){w3:World}{g cap n:Nat}(en:(M.fr k).acts.length=n)(ho3:w3.ownsRow 0 20 1 (.slice (g,0) (n+1) cap) (n+1) ((M.fr k).acts.map aF++ [aF a]))
 (hg:w.grownBy w3 (M.fr k).av.ownBlock)(hq:some g=(M.fr k).av.ownBlock\/g=w.heap.size):∃c1,KM A (w3.setCell (A.fb,k*12+3) (.slice (g,0) (n+1) cap)) { M with cl:=c1,fr:=aL M.fr k { M.fr k with av:=.slice (g,0) (n+1) cap,acts:=(M.fr k).acts++ [a] } } /\
   KF [] M.cl c1 w (w3.setCell (A.fb,k*12+3) (.slice (g,0) (n+1) cap))/\
   k_ { M with cl:=c1,fr:=aL M.fr k { M.fr k with av:=.slice (g,0) (n+1) cap,acts:=(M.fr k).acts++ [a] } } k (w3.setCell (A.fb,k*12+3) (.slice (g,0) (n+1) cap)):=by
 subst en;have hc8:=h.ok.c8;have hm:Md M.cl [10,50+k] w w3:=(Md.refl M.cl [10,50+k] w).grown hg λg' hg' _=>by rw [(ho.2 g' hg').2];simp
 have hm2:Md M.cl [10,50+k] w (w3.setCell (A.fb,k*12+3) (.slice (g,0) ((M.fr k).acts.length+1) cap)):=hm.set (λ_=>by rw [h.fr.2];simp) _ _;have m:=Mv.up hm2 (50+k);have hlt:=cO ho3 (g:=g) rfl;have hfl:=h.fr.1.lt;have hgc:iU M.cl w (w3.setCell (A.fb,k*12+3) (.slice (g,0) ((M.fr k).acts.length+1) cap)) (50+k) g=50+k:=by
  rcases hq with e|e
  .rw [lX (ho.2 g e.symm).1];exact(ho.2 g e.symm).2
  .exact wV qd qhn
 have I7:g≠A.fb:=λe=>by rw [e,lX hfl,h.fr.2] at hgc;omega
 have hown:(w3.setCell (A.fb,k*12+3) (.slice (g,0) ((M.fr k).acts.length+1) cap)).ownsRow 0 20 1 (.slice (g,0) ((M.fr k).acts.length+1) cap) ((M.fr k).acts++ [a]).length (((M.fr k).acts++ [a]).map aF):=by rw [XAZ,XBB];exact cM ho3 λg' hg'=>XAN w3 _ _ g' qeu
 have hO:Own (iU M.cl w (w3.setCell (A.fb,k*12+3) (.slice (g,0) ((M.fr k).acts.length+1) cap)) (50+k)) (50+k) (w3.setCell (A.fb,k*12+3) (.slice (g,0) ((M.fr k).acts.length+1) cap)) 20 1 (.slice (g,0) ((M.fr k).acts.length+1) cap) ((M.fr k).acts++ [a]).length (((M.fr k).acts++ [a]).map aF):=
  ⟨hown,λg' hg'=>by
   have:g=g':=qbg
   subst this
   exact⟨qhn,hgc⟩⟩
 refine⟨_,h.fmv m (λj hj=>by simp at hj;omega) hk ?_ ⟨?_,(h.fa k hk).2.mv m qj qd⟩ ⟨?_,?_,h.ok.fh k hk,h.ok.fl k hk,h.ok.bu k hk⟩,⟨hm2.os,hm2.tape,hm2.output,hm2.size,λj hj _ h0=>(lX hj).trans h0,λj hj _ h0=>hm2.block j hj (by rw [h0];simp;omega)⟩,?_⟩
 .rw [<-Cy hk 3 qf (.slice (g,0) ((M.fr k).acts.length+1) cap) rfl];exact aG.set (h.fr.1.heap (hg.block _ hfl λe=>by have:=(ho.2 _ e.symm).2;rw [h.fr.2] at this;omega)) _ _
 .have:=hO;have e2:((M.fr k).acts++ [a]).length=(((M.fr k).acts++ [a]).map aF).length:=by rw [XAY]
  rw [e2] at this;exact this.zX
 .intro b hb;rcases XAe.1 hb with hb|hb
  .exact h.ok.ac k hk b hb
  .simp at hb;subst hb;exact ha
 .show((M.fr k).acts++ [a]).length<=_;rw [XAZ];exact hn
 .unfold k_;dsimp only;rw [b_];exact hO
abbrev KS.wf(M:KS)(k:Nat)(f:Fm):KS:= { M with fr:=aL M.fr k f }
theorem wf_at{f:Fm} :(M.wf k f).fr k=f:=b_
theorem Ec:M.wf k (M.fr k)=M:=by unfold KS.wf;rw [LZ]
theorem acJ{f g:Fm} :(M.wf k f).wf k g=M.wf k g:=by unfold KS.wf;rw [Eb]
theorem KM.gm(h:KM A w M)(k:Nat):KM A w (M.wf k (M.fr k)):=by rw [Ec];exact h
theorem KM.ga{f:Fm}(h:KM A w (M.wf k f))(hk:k<A.C):EE A k f w:=by have:=h.dt hk;rw [wf_at] at this;exact this
theorem KM.jD{f:Fm}(h:KM A w (M.wf k f))(hk:k<A.C):gF M.cl w k f:=by have:=h.fa k hk;rw [wf_at] at this;exact this
theorem KM.oV{f:Fm}(h:KM A w (M.wf k f))(hk:k<A.C):j9 A M k f:=by have:=h.H_ hk;rw [wf_at] at this;exact⟨this.ac,this.al,this.fh,this.fl,this.bu⟩
theorem KM.fc{f0 f:Fm}(h:KM A w (M.wf k f0))(hk:k<A.C)(j:Nat)(hj:j<12)(v:Value)(e:bf f=(bf f0).set j v)(hf:gF M.cl w k f)(ho:j9 A M k f):KG [10] A (M.wf k f0) (M.wf k f) w (w.setCell (A.fb,k*12+j) v):=by
 have:=h.Hg hk j hj v (f:=f) (by rw [wf_at];exact e) hf ⟨ho.ac,ho.al,ho.fh,ho.fl,ho.bu⟩;rw [show({ M.wf k f0 with fr:=aL (M.wf k f0).fr k f } :KS)=M.wf k f from acJ] at this;exact this
theorem KM.fE{f0:Fm}(h:KM A w (M.wf k f0))(hk:k<A.C)(v:Int):KG [10] A (M.wf k f0) (M.wf k { f0 with e:=v }) w (w.setCell (A.fb,k*12+11) (I v)):=h.fc hk 11 qf _ R (h.jD hk) (have o:=h.oV hk;⟨o.ac,o.al,o.fh,o.fl,o.bu⟩)
theorem KM.tE{f0:Fm}(h:KM A w (M.wf k f0))(hk:k<A.C)(v:Int):KG [10] A (M.wf k f0) (M.wf k { f0 with ai:=v }) w (w.setCell (A.fb,k*12+4) (I v)):=h.fc hk 4 qf _ R (h.jD hk) (have o:=h.oV hk;⟨o.ac,o.al,o.fh,o.fl,o.bu⟩)
theorem KM.tD{f0:Fm}(h:KM A w (M.wf k f0))(hk:k<A.C)(v:Int):KG [10] A (M.wf k f0) (M.wf k { f0 with aq:=v }) w (w.setCell (A.fb,k*12+5) (I v)):=h.fc hk 5 qf _ R (h.jD hk) (have o:=h.oV hk;⟨o.ac,o.al,o.fh,o.fl,o.bu⟩)
theorem KM.vt{f0:Fm}(h:KM A w (M.wf k f0))(hk:k<A.C)(a b c d:Int):KG [10] A (M.wf k f0) (M.wf k { f0 with pK:=a,pA:=b,pB:=c,pC:=d }) w ((((w.setCell (A.fb,k*12+6) (I a)).setCell (A.fb,k*12+6+1) (I b)).setCell (A.fb,k*12+6+2) (I c)).setCell (A.fb,k*12+6+3) (I d)):=by
 have h1:=h.fc hk 6 qf (I a) (f:= { f0 with pK:=a }) R (h.jD hk) (have o:=h.oV hk;⟨o.ac,o.al,o.fh,o.fl,o.bu⟩);have h2:=h1.km.fc hk 7 qf (I b) (f:= { f0 with pK:=a,pA:=b }) R (h1.km.jD hk) (have o:=h.oV hk;⟨o.ac,o.al,o.fh,o.fl,o.bu⟩);have h3:=h2.km.fc hk 8 qf (I c) (f:= { f0 with pK:=a,pA:=b,pB:=c }) R (h2.km.jD hk) (have o:=h.oV hk;⟨o.ac,o.al,o.fh,o.fl,o.bu⟩);have h4:=h3.km.fc hk 9 qf (I d) (f:= { f0 with pK:=a,pA:=b,pB:=c,pC:=d }) R (h3.km.jD hk) (have o:=h.oV hk;⟨o.ac,o.al,o.fh,o.fl,o.bu⟩);exact((h1.trans h2).trans h3).trans h4
theorem KM.G_{f0:Fm}(h:KM A w (M.wf k f0))(hk:k<A.C){v:Value}{l:List Ac}(hv:ie M.cl (50+k) w v (l.map aF))(hl:∀a∈l,dn M.cs.length M.hs.length M.tn M.G a)(hn:l.length<=30*M.s):
  KG [10] A (M.wf k f0) (M.wf k { f0 with av:=v,acts:=l }) w (w.setCell (A.fb,k*12+3) v):=h.fc hk 3 qf _ R ⟨hv,(h.jD hk).2⟩ (have o:=h.oV hk;⟨hl,hn,o.fh,o.fl,o.bu⟩)
theorem Own.slice{cl:Nat->Nat}{c:Nat}{e:TypeId}{size n:Nat}{v:Value}{xs:List Value}(h:Own cl c w e size v n xs):∃B cap,v=.slice B n cap/\n<=cap:=by
 have hown:=h.1;rcases h.1.2 with⟨e1,e2⟩|⟨g,cap,cur,e1,-⟩
 .exact⟨none,0,by rw [e1,e2],qd⟩
 .rw [e1] at hown;exact⟨_,cap,e1,lP (own_base hown).1⟩
theorem gg:(prog.info? 20).map (λi=>(i.zero,i.size,i.bytes))=some (some .nilIface,1,16):=qh
def Oe(A:KA)(M:KS)(k:Nat)(X:List Nat)(w:World)(e:Ending)(w':World):Prop:=
 e=.returned (.tuple #[])/\∃(c1:Nat->Nat)(f:Fm),KM A w' (KS.wf { M with cl:=c1,s:=M.s+1 } k f)/\KF X M.cl c1 w w'/\f.next=(M.fr k).next/\f.busy=(M.fr k).busy
theorem KG.ui{js:List Nat}(h:KG js A M M1 w w'):Mv js M.cl M1.cl w w':=⟨h.md,λk hk _=>h.cl k hk,h.km.new⟩
theorem Own.at_{cl:Nat->Nat}{c:Nat}{e:TypeId}{n:Nat}{v u:Value}{xs:List Value}(h:Own cl c w e 1 v n xs)(hu:xs[i]? =some u)(hi:i<n):∃g cap,v=.slice (some ⟨g,0,none⟩) n cap/\n<=cap/\w.cell? ⟨g,i,none⟩=some u/\g<w.heap.size:=by
 have hown:=h.1;obtain⟨m,hm⟩:∃m,n=m+1:=⟨n-1,qd⟩;have hown':=hown;rw [hm] at hown';obtain⟨g,cap,e⟩:=ownsRow_succ hown';rw [<-hm] at e;rw [e] at hown;exact⟨g,cap,e,lP hown,(kU hown hu).1,(nW hown).lt⟩
structure eG(A:KA)(M:KS)(k:Nat)(X:List Nat)(w:World)(i:Nat)(c1:Nat->Nat)(f:Fm)(wr:World):Prop where
 km:KM A wr (KS.wf { M with cl:=c1,s:=M.s+1 } k f)
 kf:KF X M.cl c1 w wr
 ao:k_ (KS.wf { M with cl:=c1,s:=M.s+1 } k f) k wr
 nx:f.next=(M.fr k).next
 bu:f.busy=(M.fr k).busy
 hv:f.hv=(M.fr k).hv
 hs:f.hs=(M.fr k).hs
 al:f.acts.length<=17+i
theorem iV{c1:Nat->Nat}{s:Nat}{f:Fm} :(KS.wf { M with cl:=c1,s:=s } k f).fr k=f:=b_
theorem Bf{nc nh tn:Nat}{G:Nat->Gp}(a b c:Int):dn nc nh tn G ⟨157,6,a,b,c⟩:=.inl ⟨R,λh=>qer,λh=>qer,λh=>qer⟩
theorem eG.app{X:List Nat}{c1:Nat->Nat}{f:Fm}{wr wx w3:World}{g cap n:Nat}(h:eG A M k X w i c1 f wr)(hk:k<A.C)(hb:Below wr wr wx)(a:Ac)(ha:dn M.cs.length M.hs.length M.tn M.G a)(j:Nat)(en:f.acts.length=n)
 (ho3:w3.ownsRow 0 20 1 (.slice (g,0) (n+1) cap) (n+1) (f.acts.map aF++ [aF a]))(hg:wx.grownBy w3 f.av.ownBlock)(hq:some g=f.av.ownBlock\/g=wx.heap.size)(hal:f.acts.length+1<=17+j)(hal2:f.acts.length+1<=17+30*M.s):
  ∃c2,eG A M k X w j c2 { f with av:=.slice (g,0) (n+1) cap,acts:=f.acts++ [a] } (w3.setCell (A.fb,k*12+3) (.slice (g,0) (n+1) cap)):=by
 have hao:k_ (KS.wf { M with cl:=c1,s:=M.s+1 } k f) k wx:=Own.below h.ao hb;have hM:=iV (M:=M) (k:=k) (c1:=c1) (s:=M.s+1) (f:=f);obtain⟨c2,h2,a_,tY⟩:=(h.km.below hb).PG (k:=k) hao hk a ha (by rw [hM];show f.acts.length+1<=30*(M.s+1);omega) (w3:=w3) (g:=g) (cap:=cap) (n:=n) (by rw [hM];exact en) (by rw [hM];exact ho3) (by rw [hM];exact hg) (by rw [hM];exact hq);rw [hM] at h2 tY;refine⟨c2,?_⟩;have ew:({ KS.wf { M with cl:=c1,s:=M.s+1 } k f with cl:=c2,fr:=aL (KS.wf { M with cl:=c1,s:=M.s+1 } k f).fr k { f with av:=.slice (g,0) (n+1) cap,acts:=f.acts++ [a] } } :KS)=KS.wf { M with cl:=c2,s:=M.s+1 } k { f with av:=.slice (g,0) (n+1) cap,acts:=f.acts++ [a] } :=by unfold KS.wf;rw [Eb]
 rw [ew] at h2 tY;exact⟨h2,h.kf.then_ ((KF.below [] _ hb).trans a_),tY,h.nx,h.bu,h.hv,h.hs,by show(f.acts++ [a]).length<=_;rw [XAZ];exact hal⟩
theorem k_.mv{M1:KS}(h:k_ M k w){js:List Nat}(m:Mv js M.cl M1.cl w w')(d:50+k∉js)(e1:(M1.fr k).av=(M.fr k).av)(e2:(M1.fr k).acts=(M.fr k).acts):k_ M1 k w':=by
 unfold k_;rw [e1,e2];exact Own.mv h m d qd
theorem eG.paid{X:List Nat}{c1:Nat->Nat}{f:Fm}{wr:World}(h:eG A M k X w i c1 f wr)(hk:k<A.C):eG A M k X w i c1 { f with pK:=0,pA:=0,pB:=0,pC:=0 } ((((wr.setCell (A.fb,k*12+6) (I 0)).setCell (A.fb,k*12+6+1) (I 0)).setCell (A.fb,k*12+6+2) (I 0)).setCell (A.fb,k*12+6+3) (I 0)):=by
 have h3:=h.km.vt hk 0 0 0 0;exact⟨h3.km,h.kf.then_ (h3.kf qf),h.ao.mv h3.ui qj (by rw [iV,iV]) (by rw [iV,iV]),h.nx,h.bu,h.hv,h.hs,h.al⟩
theorem eG.begin_{X:List Nat}{c1:Nat->Nat}{f0:Fm}{wr:World}{u:List Ac}{v:Value}(h1:KM A wr (KS.wf { M with cl:=c1,s:=M.s+1 } k f0))(k1:KF X M.cl c1 w wr)(hk:k<A.C)(ho:Own c1 (50+k) wr 20 1 v u.length (u.map aF))(hsl:ie c1 (50+k) wr v (u.map aF))(hu:∀a∈u,dn M.cs.length M.hs.length M.tn M.G a)(hl:u.length<=16)(e1:f0.next=(M.fr k).next)(e2:f0.busy=(M.fr k).busy)(e3:f0.hv=(M.fr k).hv)(e4:f0.hs=(M.fr k).hs):
  eG A M k X w 0 c1 { f0 with av:=v,acts:=u } (wr.setCell (A.fb,k*12+3) v):=by
 have h2:=h1.G_ hk hsl hu (by show u.length<=30*(M.s+1);omega);refine⟨h2.km,k1.then_ (h2.kf qf),?_,e1,e2,e3,e4,by show u.length<=17+0;omega⟩;unfold k_;rw [iV];exact ho.mv h2.ui qj qd
theorem Reads.act(w:World)(t:TypeId)(a:Ac):Reads (w.alloc (.cells #[aF a] t)) (w.alloc (.cells #[aF a] t)).heap.size 1 (some ⟨w.heap.size,0,none⟩) 1 [aF a]:=Reads.lit w t #[aF a] 1 1 rfl
theorem sh(h:KM A w M)(hs:M.s<=30000)(hk:k<A.C)(er:Int)(u:List Ac)(B:Option Addr)(c n:Nat)(hn:u.length=n)(hu:w.ownsRow 0 20 1 (.slice B n c) n (u.map aF))(hu0:∀g,(Value.slice B n c).ownBlock=some g->M.cl g=0)(Jr:∀a∈u,dn M.cs.length M.hs.length M.tn M.G a)(yQ:n<=16):
  Z 103 #[(A.fb,k*12),I er,.slice B n c] w (Oe A M k (Value.slice B n c).ownBlock.toList w):=by
 subst hn;obtain⟨c0,h0,hown0,-,hc0⟩:=h.LO hu hu0 (50+k);replace h0:KM A w (KS.wf { M with cl:=c0,s:=M.s+1 } k (M.fr k)):=(h0.more (s':=M.s+1) qeo).gm k;obtain⟨cL,cj,f0,f1,f2,f3,f4,f5,f6,f7,f8,f9,f10,f11⟩:=h0.ga hk;obtain⟨B4,c4,hv4,-⟩:=(h0.jD hk).2.slice;obtain⟨m,hm⟩:=Xq ((M.fr k).hs.length);have hfl:=h.ok.fl k hk;rw [hm] at hfl;rw [show({ M with cl:=c0,s:=M.s+1 } :KS).fr k=M.fr k from rfl] at hv4 f10;rw [hv4,hm] at f10;obtain⟨X,hX⟩:=Xq ((Value.slice B u.length c).ownBlock.toList);have Ja:KF X M.cl c0 w w:=KF.KE λj _ hj h0=>(hc0 j λe=>hj (by rw [<-hX,e];simp)).trans h0;have Jq:ie c0 (50+k) w (.slice B u.length c) (u.map aF):=by have:=hown0;rw [<-XAY (f:=aF)] at this;rw [<-XAY (f:=aF)];exact this.zX
 have HO:=XAA hown0;rw [hX];have H0:=XAA h0;have HM:=XAA hm;have HV:=XAA hv4;have xz:=XAA Ja;have HSL:=XAA Jq;have HA:=XAA (h.H_ hk);have HU:=XAA (λa ha=>Jr a ha);clear h h0 hown0 hc0 hm hu hu0 Jr hv4 hX Ja Jq;rcases (by cases((M.fr k).e==0)<;>simp:((M.fr k).e==0)=true\/((M.fr k).e==0)=false) with he|he
 .rcases (by omega:¬0<(M.fr k).pA\/0<(M.fr k).pA) with hp|hp
  .go_enter func103,ntmps103;go_wp2;have HI:=XAA (eG.paid (eG.begin_ (M:=M) (X:=X) (w:=w) (u:=u) (v:=.slice B u.length c) (H0.out.fE hk er).km (xz.out.then_ ((H0.out.fE hk er).kf qf)) hk (HO.out.mv (H0.out.fE hk er).ui qj qd) (HSL.out.mv (H0.out.fE hk er).ui qj qd) HU.out yQ R R R R) hk);go_loopw [7,57] (λ_ z wr=>∃(i:Nat)(c1:Nat->Nat)(f:Fm),z=I i/\i<=m/\eG A M k X w i c1 f wr) (λ_ z _=>m-(intOf z).toNat)
   case atStart=>exact⟨0,_,_,R,XAJ _,HI.out⟩
   case round=>
    obtain⟨i,c1,f,rfl,him,hr⟩:=hrel;have HR:=XAA hr;by_cases hi:i<m
    .obtain⟨B5,c5,hv5,-⟩:=Own.slice hr.ao;rw [iV] at hv5;obtain⟨l,hl⟩:=Xq f.acts.length;have hal:=hr.al;rw [hl] at hv5 hal;obtain⟨-,sD,-,-,-,r3,-⟩:=hr.km.ga hk;rw [hv5] at r3;have hown:=(hr.km.jD hk).2;rw [hr.hs,hr.hv,HM.out] at hown;obtain⟨hd,hhd⟩:∃hd,(M.fr k).hs[i]? =some hd:=⟨_,XAO qdf⟩;obtain⟨g4,BJ,e4,-,hc4,hl4⟩:=hown.at_ (i:=i) (u:=nV hd) qfd hi;have e4':=e4;rw [HV.out,HM.out] at e4';injection e4' with rM e4b rN;subst rM;have hdl:=HA.out.fh hd (XAi hhd);have b1:(i:Int)<(m:Int):=by omega
     have kV:=hr.km.fr.1.lt;have HL:=XAA hl;have HV5:=XAA hv5;have xt:=XAA hdl;have lH:(KS.wf { M with cl:=c1,s:=M.s+1 } k f).cl A.fb≠50+k:=qcb
     have hao:∀o,(wr.alloc o).ownsRow 0 20 1 (.slice B5 l c5) l (f.acts.map aF):=λo=>qbc;have ea:=XAA hao;have iG:=XAA lH;clear hr hv5 hl hown hhd e4 hdl hal hao lH e4b rN;go_wp2_with (at_builtin;refine iW gg R qf fV qu _ _ qu _ l (f.acts.map aF) qu (ea.out _) (some ⟨wr.heap.size,0,none⟩) 1 1 [aF ⟨176,5,hd,0,0⟩] qu (Reads.act wr _ ⟨176,5,hd,0,0⟩) qk qem qf qd ?_;intro g3 cap3 w3 ho3 hg3 hq3;have hap:=tx (M:=KS.wf { M with cl:=c1,s:=M.s+1 } k f) (Own.below HR.out.ao ((XAC _ wr).alloc (XAB _) (.cells #[aF ⟨176,5,hd,0,0⟩] 20))) (w3:=w3) qga (p:=⟨A.fb,k*12+3,none⟩) qj iG.out;have hy:=hap.1.trans ((XA9 wr _ ⟨A.fb,k*12+3,none⟩ kV).trans r3);have hz:=hap.2.trans (((XAC _ wr).alloc (XAB _) _).frozen (p:=⟨A.fb,k*12+3,none⟩) kV|>.trans (sD _));clear hap);go_roundw
     case rel=>
      obtain⟨c2,h2⟩:=HR.out.app hk ((XAC _ wr).alloc (XAB _) _) ⟨176,5,hd,0,0⟩ (.inr (.inr ⟨R,qgb,λ_=>qel,λh=>absurd R h⟩)) (i+1) HL.out ho3 qht qhu qdp qdp;exact⟨i+1,c2,_,qbf,hi,h2⟩
     case measure=>simp [intOf];omega
    .obtain rfl:i=m:=by omega
     go_wp2;refine Xe ?_;exact⟨R,c1,f,HR.out.km,HR.out.kf,HR.out.nx,HR.out.bu⟩
  .go_enter func103,ntmps103;go_upto_region 4 with fail
   refine bg (λW hW=>?_);obtain⟨fq,hI0,e1,e2,e3,e4⟩:∃fq,eG A M k X w 0 c0 fq W/\fq.av=.slice B u.length c/\fq.acts=u/\fq.pA=(M.fr k).pA/\fq.pB=(M.fr k).pB:=by have hI1:=eG.begin_ (M:=M) (X:=X) (w:=w) (u:=u) (v:=.slice B u.length c) (H0.out.fE hk er).km (xz.out.then_ ((H0.out.fE hk er).kf qf)) hk (HO.out.mv (H0.out.fE hk er).ui qj qd) (HSL.out.mv (H0.out.fE hk er).ui qj qd) HU.out yQ R R R rfl;rw [<-hW] at hI1;exact⟨_,hI1,R,R,R,R⟩
   have HI0:=XAA hI0;have E1:=XAA e1;have E2:=XAA e2;obtain⟨uD,Ed,-,-,-,q3,-,-,-,q7,q8,-⟩:=hI0.km.ga hk;rw [e1] at q3;rw [e3] at q7;rw [e4] at q8;clear hW hI0 e1 e2 e3 e4;have HB2:Hid (Below W W ((W.alloc (.cells #[aF ⟨157,6,(M.fr k).pA,(M.fr k).pB,0⟩] 20)).drew)):=XAA (((XAC _ W).alloc (XAB _) _).drew);have ea:=XAA (Own.below HI0.out.ao HB2.out);have fH:Hid (((W.alloc (.cells #[aF ⟨157,6,(M.fr k).pA,(M.fr k).pB,0⟩] 20)).drew).ownsRow 0 20 1 (.slice B u.length c) u.length (u.map aF)):=XAA qfi;have HR2:=XAA ((Reads.act W 20 ⟨157,6,(M.fr k).pA,(M.fr k).pB,0⟩).drew);have iG:Hid (c0 A.fb≠50+k):=XAA qfj;clear f0 f1 f2 f3 f4 f5 f6 f7 f8 f9 f10 f11 cj;have p3:=fs q3;have p7:=fs q7;have p8:=fs q8;apply kJ (A:=λ_ _ w5=>∃c2 f3,eG A M k X w 0 c2 f3 w5)
   .intro hnext;go_region_law (refine iS gg R qf fV R _ _ qu _ u.length (u.map aF) qu fH.out (some ⟨W.heap.size,0,none⟩) 1 1 [aF ⟨157,6,(M.fr k).pA,(M.fr k).pB,0⟩] qu HR2.out qk qd qf qd ?_;intro g3 cap3 w3 ho3 hg3 hq3;have hap:=tx ea.out (w3:=w3) (by rw [iV,E1.out];exact hg3) (p:=⟨A.fb,k*12+3,none⟩) qik iG.out;have hy:=hap.1.trans ((XA9 W _ ⟨A.fb,k*12+3,none⟩ uD).trans q3);have hz:=hap.2.trans ((HB2.out.frozen (p:=⟨A.fb,k*12+3,none⟩) uD).trans (Ed _));clear hap);all_goals
     obtain⟨c2,h2⟩:=HI0.out.app hk HB2.out ⟨157,6,(M.fr k).pA,(M.fr k).pB,0⟩ (Bf _ _ _) 0 (by rw [E2.out]) (by rw [E2.out];exact ho3) qif qig qjt qjt;have HH:Hid (∃c2 f3,eG A M k X w 0 c2 f3 (w3.setCell (A.fb,k*12+3) (.slice (g3,0) (u.length+1) cap3))):=XAA ⟨c2,_,h2⟩;clear h2 hy hz ho3 hg3 hq3;generalize w3.setCell (A.fb,k*12+3) (.slice (g3,0) (u.length+1) cap3)=w5 at HH ⊢;exact hnext g3 cap3 w5 HH.out
   .rintro g3 cap3 w5 ⟨c2,f3,h5⟩;obtain⟨-,acU,-,-,-,-,-,-,z6,z7,z8,z9,z10,-⟩:=h5.km.ga hk;rw [h5.hv,HV.out,HM.out] at z10;have H5:=XAA h5;clear h5 HI0 ea fH HR2 p3 p7 p8 q3 q7 q8 HB2;go_wp2;have HI:=XAA (H5.out.paid hk);go_loopw [7,57] (λ_ z wr=>∃(i:Nat)(c1:Nat->Nat)(f:Fm),z=I i/\i<=m/\eG A M k X w i c1 f wr) (λ_ z _=>m-(intOf z).toNat)
    case atStart=>exact⟨0,_,_,R,XAJ _,HI.out⟩
    case round=>
     obtain⟨i,c1,f,rfl,him,hr⟩:=hrel;have HR:=XAA hr;by_cases hi:i<m
     .obtain⟨B5,c5,hv5,-⟩:=Own.slice hr.ao;rw [iV] at hv5;obtain⟨l,hl⟩:=Xq f.acts.length;have hal:=hr.al;rw [hl] at hv5 hal;obtain⟨-,sD,-,-,-,r3,-⟩:=hr.km.ga hk;rw [hv5] at r3;have hown:=(hr.km.jD hk).2;rw [hr.hs,hr.hv,HM.out] at hown;obtain⟨hd,hhd⟩:∃hd,(M.fr k).hs[i]? =some hd:=⟨_,XAO qdf⟩;obtain⟨g4,BJ,e4,-,hc4,hl4⟩:=hown.at_ (i:=i) (u:=nV hd) qfd hi;have e4':=e4;rw [HV.out,HM.out] at e4';injection e4' with rM e4b rN;subst rM;have hdl:=HA.out.fh hd (XAi hhd);have b1:(i:Int)<(m:Int):=by omega
      have kV:=hr.km.fr.1.lt;have HL:=XAA hl;have HV5:=XAA hv5;have xt:=XAA hdl;have lH:(KS.wf { M with cl:=c1,s:=M.s+1 } k f).cl A.fb≠50+k:=qcb
      have hao:∀o,(wr.alloc o).ownsRow 0 20 1 (.slice B5 l c5) l (f.acts.map aF):=λo=>qbc;have ea:=XAA hao;have iG:=XAA lH;clear hr hv5 hl hown hhd e4 hdl hal hao lH e4b rN;go_wp2_with (at_builtin;refine iW gg R qf fV qu _ _ qu _ l (f.acts.map aF) qu (ea.out _) (some ⟨wr.heap.size,0,none⟩) 1 1 [aF ⟨176,5,hd,0,0⟩] qu (Reads.act wr _ ⟨176,5,hd,0,0⟩) qk qem qf qd ?_;intro g3 cap3 w3 ho3 hg3 hq3;have hap:=tx (M:=KS.wf { M with cl:=c1,s:=M.s+1 } k f) (Own.below HR.out.ao ((XAC _ wr).alloc (XAB _) (.cells #[aF ⟨176,5,hd,0,0⟩] 20))) (w3:=w3) qga (p:=⟨A.fb,k*12+3,none⟩) qj iG.out;have hy:=hap.1.trans ((XA9 wr _ ⟨A.fb,k*12+3,none⟩ kV).trans r3);have hz:=hap.2.trans (((XAC _ wr).alloc (XAB _) _).frozen (p:=⟨A.fb,k*12+3,none⟩) kV|>.trans (sD _));clear hap);go_roundw
      case rel=>
       obtain⟨c2,h2⟩:=HR.out.app hk ((XAC _ wr).alloc (XAB _) _) ⟨176,5,hd,0,0⟩ (.inr (.inr ⟨R,qgb,λ_=>qel,λh=>absurd R h⟩)) (i+1) HL.out ho3 qht qhu qdp qdp;exact⟨i+1,c2,_,qbf,hi,h2⟩
      case measure=>simp [intOf];omega
     .obtain rfl:i=m:=by omega
      go_wp2;refine Xe ?_;exact⟨R,c1,f,HR.out.km,HR.out.kf,HR.out.nx,HR.out.bu⟩
 .rcases (by omega:¬0<(M.fr k).pA\/0<(M.fr k).pA) with hp|hp
  .go_enter func103,ntmps103;go_wp2;have HI:=XAA (eG.paid (eG.begin_ (M:=M) (X:=X) (w:=w) (u:=u) (v:=.slice B u.length c) H0.out xz.out hk HO.out HSL.out HU.out yQ R R R R) hk);go_loopw [7,57] (λ_ z wr=>∃(i:Nat)(c1:Nat->Nat)(f:Fm),z=I i/\i<=m/\eG A M k X w i c1 f wr) (λ_ z _=>m-(intOf z).toNat)
   case atStart=>exact⟨0,_,_,R,XAJ _,HI.out⟩
   case round=>
    obtain⟨i,c1,f,rfl,him,hr⟩:=hrel;have HR:=XAA hr;by_cases hi:i<m
    .obtain⟨B5,c5,hv5,-⟩:=Own.slice hr.ao;rw [iV] at hv5;obtain⟨l,hl⟩:=Xq f.acts.length;have hal:=hr.al;rw [hl] at hv5 hal;obtain⟨-,sD,-,-,-,r3,-⟩:=hr.km.ga hk;rw [hv5] at r3;have hown:=(hr.km.jD hk).2;rw [hr.hs,hr.hv,HM.out] at hown;obtain⟨hd,hhd⟩:∃hd,(M.fr k).hs[i]? =some hd:=⟨_,XAO qdf⟩;obtain⟨g4,BJ,e4,-,hc4,hl4⟩:=hown.at_ (i:=i) (u:=nV hd) qfd hi;have e4':=e4;rw [HV.out,HM.out] at e4';injection e4' with rM e4b rN;subst rM;have hdl:=HA.out.fh hd (XAi hhd);have b1:(i:Int)<(m:Int):=by omega
     have kV:=hr.km.fr.1.lt;have HL:=XAA hl;have HV5:=XAA hv5;have xt:=XAA hdl;have lH:(KS.wf { M with cl:=c1,s:=M.s+1 } k f).cl A.fb≠50+k:=qcb
     have hao:∀o,(wr.alloc o).ownsRow 0 20 1 (.slice B5 l c5) l (f.acts.map aF):=λo=>qbc;have ea:=XAA hao;have iG:=XAA lH;clear hr hv5 hl hown hhd e4 hdl hal hao lH e4b rN;go_wp2_with (at_builtin;refine iW gg R qf fV qu _ _ qu _ l (f.acts.map aF) qu (ea.out _) (some ⟨wr.heap.size,0,none⟩) 1 1 [aF ⟨176,5,hd,0,0⟩] qu (Reads.act wr _ ⟨176,5,hd,0,0⟩) qk qem qf qd ?_;intro g3 cap3 w3 ho3 hg3 hq3;have hap:=tx (M:=KS.wf { M with cl:=c1,s:=M.s+1 } k f) (Own.below HR.out.ao ((XAC _ wr).alloc (XAB _) (.cells #[aF ⟨176,5,hd,0,0⟩] 20))) (w3:=w3) qga (p:=⟨A.fb,k*12+3,none⟩) qj iG.out;have hy:=hap.1.trans ((XA9 wr _ ⟨A.fb,k*12+3,none⟩ kV).trans r3);have hz:=hap.2.trans (((XAC _ wr).alloc (XAB _) _).frozen (p:=⟨A.fb,k*12+3,none⟩) kV|>.trans (sD _));clear hap);go_roundw
     case rel=>
      obtain⟨c2,h2⟩:=HR.out.app hk ((XAC _ wr).alloc (XAB _) _) ⟨176,5,hd,0,0⟩ (.inr (.inr ⟨R,qgb,λ_=>qel,λh=>absurd R h⟩)) (i+1) HL.out ho3 qht qhu qdp qdp;exact⟨i+1,c2,_,qbf,hi,h2⟩
     case measure=>simp [intOf];omega
    .obtain rfl:i=m:=by omega
     go_wp2;refine Xe ?_;exact⟨R,c1,f,HR.out.km,HR.out.kf,HR.out.nx,HR.out.bu⟩
  .go_enter func103,ntmps103;go_upto_region 4 with fail
   refine bg (λW hW=>?_);obtain⟨fq,hI0,e1,e2,e3,e4⟩:∃fq,eG A M k X w 0 c0 fq W/\fq.av=.slice B u.length c/\fq.acts=u/\fq.pA=(M.fr k).pA/\fq.pB=(M.fr k).pB:=by have hI1:=eG.begin_ (M:=M) (X:=X) (w:=w) (u:=u) (v:=.slice B u.length c) H0.out xz.out hk HO.out HSL.out HU.out yQ R R R rfl;rw [<-hW] at hI1;exact⟨_,hI1,R,R,R,R⟩
   have HI0:=XAA hI0;have E1:=XAA e1;have E2:=XAA e2;obtain⟨uD,Ed,-,-,-,q3,-,-,-,q7,q8,-⟩:=hI0.km.ga hk;rw [e1] at q3;rw [e3] at q7;rw [e4] at q8;clear hW hI0 e1 e2 e3 e4;have HB2:Hid (Below W W ((W.alloc (.cells #[aF ⟨157,6,(M.fr k).pA,(M.fr k).pB,0⟩] 20)).drew)):=XAA (((XAC _ W).alloc (XAB _) _).drew);have ea:=XAA (Own.below HI0.out.ao HB2.out);have fH:Hid (((W.alloc (.cells #[aF ⟨157,6,(M.fr k).pA,(M.fr k).pB,0⟩] 20)).drew).ownsRow 0 20 1 (.slice B u.length c) u.length (u.map aF)):=XAA qfi;have HR2:=XAA ((Reads.act W 20 ⟨157,6,(M.fr k).pA,(M.fr k).pB,0⟩).drew);have iG:Hid (c0 A.fb≠50+k):=XAA qfj;clear f0 f1 f2 f3 f4 f5 f6 f7 f8 f9 f10 f11 cj;have p3:=fs q3;have p7:=fs q7;have p8:=fs q8;apply kJ (A:=λ_ _ w5=>∃c2 f3,eG A M k X w 0 c2 f3 w5)
   .intro hnext;go_region_law (refine iS gg R qf fV R _ _ qu _ u.length (u.map aF) qu fH.out (some ⟨W.heap.size,0,none⟩) 1 1 [aF ⟨157,6,(M.fr k).pA,(M.fr k).pB,0⟩] qu HR2.out qk qd qf qd ?_;intro g3 cap3 w3 ho3 hg3 hq3;have hap:=tx ea.out (w3:=w3) (by rw [iV,E1.out];exact hg3) (p:=⟨A.fb,k*12+3,none⟩) qik iG.out;have hy:=hap.1.trans ((XA9 W _ ⟨A.fb,k*12+3,none⟩ uD).trans q3);have hz:=hap.2.trans ((HB2.out.frozen (p:=⟨A.fb,k*12+3,none⟩) uD).trans (Ed _));clear hap);all_goals
     obtain⟨c2,h2⟩:=HI0.out.app hk HB2.out ⟨157,6,(M.fr k).pA,(M.fr k).pB,0⟩ (Bf _ _ _) 0 (by rw [E2.out]) (by rw [E2.out];exact ho3) qif qig qjt qjt;have HH:Hid (∃c2 f3,eG A M k X w 0 c2 f3 (w3.setCell (A.fb,k*12+3) (.slice (g3,0) (u.length+1) cap3))):=XAA ⟨c2,_,h2⟩;clear h2 hy hz ho3 hg3 hq3;generalize w3.setCell (A.fb,k*12+3) (.slice (g3,0) (u.length+1) cap3)=w5 at HH ⊢;exact hnext g3 cap3 w5 HH.out
   .rintro g3 cap3 w5 ⟨c2,f3,h5⟩;obtain⟨-,acU,-,-,-,-,-,-,z6,z7,z8,z9,z10,-⟩:=h5.km.ga hk;rw [h5.hv,HV.out,HM.out] at z10;have H5:=XAA h5;clear h5 HI0 ea fH HR2 p3 p7 p8 q3 q7 q8 HB2;go_wp2;have HI:=XAA (H5.out.paid hk);go_loopw [7,57] (λ_ z wr=>∃(i:Nat)(c1:Nat->Nat)(f:Fm),z=I i/\i<=m/\eG A M k X w i c1 f wr) (λ_ z _=>m-(intOf z).toNat)
    case atStart=>exact⟨0,_,_,R,XAJ _,HI.out⟩
    case round=>
     obtain⟨i,c1,f,rfl,him,hr⟩:=hrel;have HR:=XAA hr;by_cases hi:i<m
     .obtain⟨B5,c5,hv5,-⟩:=Own.slice hr.ao;rw [iV] at hv5;obtain⟨l,hl⟩:=Xq f.acts.length;have hal:=hr.al;rw [hl] at hv5 hal;obtain⟨-,sD,-,-,-,r3,-⟩:=hr.km.ga hk;rw [hv5] at r3;have hown:=(hr.km.jD hk).2;rw [hr.hs,hr.hv,HM.out] at hown;obtain⟨hd,hhd⟩:∃hd,(M.fr k).hs[i]? =some hd:=⟨_,XAO qdf⟩;obtain⟨g4,BJ,e4,-,hc4,hl4⟩:=hown.at_ (i:=i) (u:=nV hd) qfd hi;have e4':=e4;rw [HV.out,HM.out] at e4';injection e4' with rM e4b rN;subst rM;have hdl:=HA.out.fh hd (XAi hhd);have b1:(i:Int)<(m:Int):=by omega
      have kV:=hr.km.fr.1.lt;have HL:=XAA hl;have HV5:=XAA hv5;have xt:=XAA hdl;have lH:(KS.wf { M with cl:=c1,s:=M.s+1 } k f).cl A.fb≠50+k:=qcb
      have hao:∀o,(wr.alloc o).ownsRow 0 20 1 (.slice B5 l c5) l (f.acts.map aF):=λo=>qbc;have ea:=XAA hao;have iG:=XAA lH;clear hr hv5 hl hown hhd e4 hdl hal hao lH e4b rN;go_wp2_with (at_builtin;refine iW gg R qf fV qu _ _ qu _ l (f.acts.map aF) qu (ea.out _) (some ⟨wr.heap.size,0,none⟩) 1 1 [aF ⟨176,5,hd,0,0⟩] qu (Reads.act wr _ ⟨176,5,hd,0,0⟩) qk qem qf qd ?_;intro g3 cap3 w3 ho3 hg3 hq3;have hap:=tx (M:=KS.wf { M with cl:=c1,s:=M.s+1 } k f) (Own.below HR.out.ao ((XAC _ wr).alloc (XAB _) (.cells #[aF ⟨176,5,hd,0,0⟩] 20))) (w3:=w3) qga (p:=⟨A.fb,k*12+3,none⟩) qj iG.out;have hy:=hap.1.trans ((XA9 wr _ ⟨A.fb,k*12+3,none⟩ kV).trans r3);have hz:=hap.2.trans (((XAC _ wr).alloc (XAB _) _).frozen (p:=⟨A.fb,k*12+3,none⟩) kV|>.trans (sD _));clear hap);go_roundw
      case rel=>
       obtain⟨c2,h2⟩:=HR.out.app hk ((XAC _ wr).alloc (XAB _) _) ⟨176,5,hd,0,0⟩ (.inr (.inr ⟨R,qgb,λ_=>qel,λh=>absurd R h⟩)) (i+1) HL.out ho3 qht qhu qdp qdp;exact⟨i+1,c2,_,qbf,hi,h2⟩
      case measure=>simp [intOf];omega
     .obtain rfl:i=m:=by omega
      go_wp2;refine Xe ?_;exact⟨R,c1,f,HR.out.km,HR.out.kf,HR.out.nx,HR.out.bu⟩
end
end Go.Proofs.YtedefgjfgdcfdaaGreatDoor
