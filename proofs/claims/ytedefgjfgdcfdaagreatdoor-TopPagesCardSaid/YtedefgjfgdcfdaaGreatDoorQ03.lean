/- Walks and laws for TopPages. -/
import Derived.Test.YtedefgjfgdcfdaaGreatDoorQ02
import Derived.Lib.SliceRun
namespace Go.Proofs.YtedefgjfgdcfdaaGreatDoor
open Go.RowKit Go.Proofs.Tryz
set_option maxRecDepth 100000
set_option maxHeartbeats 4000000
abbrev U64:Nat:=18446744073709551616
structure Ch where
 C:Nat
 O:Nat
 key:Nat
structure Ch.Ok(c:Ch):Prop where
 c1:1<=c.C
 c8:c.C<=8
 o1:1<=c.O
 o16:c.O<=16
 k:c.key<U64
def Ch.words(c:Ch):Nat:=4*c.C+4+128+32*c.O
structure Ey where
def bH(_:World)(_:Nat)(_:Ch)(_:Prop):Ey:=⟨⟩
instance(w:World)(s:Nat)(c:Ch)(p:Prop):CoeDep Ey (bH w s c p) Prop:=⟨w.cell? (s,1)=I c.C/\w.cell? (s,2)=I 32/\w.cell? (s,3)=I c.O/\w.cell? (s,4)=I 1/\w.cell? (s,5)=I 2/\w.cell? (s,6)=J c.key/\p⟩
structure Tk where
 ar:Int
 aj:Int
 pc:Int
 az:Int
 aB:Int
 ai:Int
 aq:Int
 H:Nat
 T:Nat
 F:Nat
 K:Nat
 N:Nat
 au:Int
 ay:Int
 to:Int
 aw:Int
 fr:Int
def aO:Tk:=⟨0,0,0,0,0,0,0,0,0,0,0,0,0,0,0,0,0⟩
structure Tk.Ok(t:Tk):Prop where
 H:t.H<U64
 T:t.T<U64
 F:t.F<U64
 K:t.K<U64
 N:t.N<U64
abbrev Nx(x:Int):Prop:=x≠77/\x≠43/\x≠44/\x≠78
structure St where
 t:Tk
 bad:Bool
 ws:List Nat
 n:Nat
def must(b:Bool)(E:St):St:= { E with bad:=E.bad|| !b }
def inB(a:Int)(k:Nat)(E:St):Bool:=decide (0<=a/\a+(k:Int)<=E.ws.length)
def wd(a:Int)(E:St):Nat:=E.ws.getD a.toNat 0
def one(b:Bool):Nat:=bif b then 1 else 0
def loadS(a:Int)(E:St):Nat × St:=(bif inB a 1 E then wd a E else 0,{ E with bad:=E.bad|| !inB a 1 E,n:=E.n+one (inB a 1 E) })
def storeS(a:Int)(v:Nat)(E:St):St:= { E with bad:=E.bad|| !inB a 1 E,ws:=bif inB a 1 E then E.ws.set a.toNat v else E.ws,n:=E.n+one (inB a 1 E) }
def hit2(a:Int)(o s:Nat)(E:St):Bool:=inB a 2 E && decide (wd a E=o/\wd (a+1) E=s)
def cas2S(a:Int)(o s v v2:Nat)(E:St):Bool × St:=
 (hit2 a o s E,{ E with bad:=E.bad|| !inB a 2 E,ws:=bif hit2 a o s E then(E.ws.set a.toNat v).set (a.toNat+1) v2 else E.ws,n:=E.n+one (inB a 2 E) })
def yN(a:Int)(o:Nat)(E:St):Bool:=inB a 1 E && decide (wd a E=o)
def rI(a:Int)(o v:Nat)(E:St):Bool × St:=
 (yN a o E,{ E with bad:=E.bad|| !inB a 1 E,ws:=bif yN a o E then E.ws.set a.toNat v else E.ws,n:=E.n+one (inB a 1 E) })
def xY(a:Int)(v:Nat)(E:St):St:=
 { E with bad:=E.bad|| !inB a 1 E,ws:=bif inB a 1 E then E.ws.set a.toNat ((wd a E+v) % U64) else E.ws,n:=E.n+one (inB a 1 E) }
def dm(c:Ch)(aj:Int):Int:=if 0<=aj/\aj<c.C then 4*aj else-1
def dO(c:Ch)(aj:Int):Int:=if 0<=aj/\aj<c.C then 4*aj+2 else-1
def iu(c:Ch):Int:=4*c.C
def oc(c:Ch):Int:=4*c.C+1
def lI(c:Ch):Int:=4*c.C+2
def bE(c:Ch)(s:Int):Int:=if 0<=s/\s<32 then 4*c.C+4+4*s else-1
def fz(c:Ch)(s:Int):Int:=if 0<=s/\s<32 then 4*c.C+4+4*s+2 else-1
def eK(c:Ch)(s o:Int):Int:=if(0<=s/\s<32)/\0<=o/\o<c.O then 4*c.C+4+128+s*c.O+o else-1
def gC(c:Ch)(s:Int):Nat:=(c.key+(s % 18446744073709551616).toNat*11400714819323198485) % U64
def bh(a:Int):Int:=if a<0 then a else a+1
section
variable(E:St)
def St.zG(x:Int):St:= { E with t:= { E.t with az:=x } }
def St.DY(x:Int):St:= { E with t:= { E.t with aB:=x } }
def St.sPc(x:Int):St:= { E with t:= { E.t with pc:=x } }
def St.zJ(x:Int):St:= { E with t:= { E.t with ai:=x } }
def St.zI(x:Int):St:= { E with t:= { E.t with aq:=x } }
def St.sH(x:Nat):St:= { E with t:= { E.t with H:=x } }
def St.sT(x:Nat):St:= { E with t:= { E.t with T:=x } }
def St.sF(x:Nat):St:= { E with t:= { E.t with F:=x } }
def St.sK(x:Nat):St:= { E with t:= { E.t with K:=x } }
def St.sN(x:Nat):St:= { E with t:= { E.t with N:=x } }
def St.zH(x:Int):St:= { E with t:= { E.t with au:=x } }
def St.Ls(x:Int):St:= { E with t:= { E.t with ay:=x } }
def St.sTo(x:Int):St:= { E with t:= { E.t with to:=x } }
def St.acy(x:Int):St:= { E with t:= { E.t with aw:=x } }
def St.sBad(x:Bool):St:= { E with bad:=x }
end
def either(b:Bool)(x y:Int)(E:St):St:=if b=true then E.sPc x else E.sPc y
def inc(n:Nat):Nat:=(n+1) % U64
def nD(c:Ch)(E:St):St:=let r:=loadS (bh (dm c E.t.aj)) E;(r.2.sT r.1).sPc (E.t.pc+1)
def ny(c:Ch)(E:St):Int × Int × St:=
 let r:=loadS (dm c E.t.aj) E
 let h:=jI r.1
 (h.1,h.2.1,must (h.2.2 && (decide (h.1<32) && decide (h.2.1<c.O))) (r.2.sH r.1))
def nA(c:Ch)(E:St):St:=
 let r:=ny c E
 let σ2:=(r.2.2.zJ r.1).zI r.2.1
 if r.1<0 then σ2.sPc 30 else if r.2.1<0 then σ2.sPc 20 else σ2.sPc 2
def nB(c:Ch)(E:St):St:=
 let r:=loadS (eK c E.t.ai E.t.aq) E
 let p:=jq r.1 (gC c E.t.ai) E.t.aq
 if p.2=false\/(c.O:Int)<=p.1 then r.2.sPc 0 else(r.2.zH p.1).sPc 3
def iO(c:Ch)(aq again:Int)(E:St):St:=
 let w:=gR E.t.ai aq
 let σ1:=must (w.2==0) E
 if σ1.bad=true then σ1 else
  let q:=cas2S (dm c E.t.aj) E.t.H E.t.T w.1.toNat (inc E.t.T) σ1
  if q.1=true then q.2.zG 1 else q.2.sPc again
def mB(c:Ch)(E:St):St:=
 let r:=ny c E
 if r.1=r.2.2.t.ai then(r.2.2.zH r.2.1).sPc 12 else r.2.2.sPc 50
def nC(c:Ch)(E:St):St:=
 let w:=gT E.t.au (gC c E.t.ai) E.t.aq
 let σ1:=must (w.2==0) E
 (if σ1.bad=true then σ1 else storeS (eK c E.t.ai E.t.aq) w.1.toNat σ1).sPc 13
def dU(c:Ch)(pc:Int)(E:St):St:=
 if pc=0 then nD c E else if pc=1 then nA c E else if pc=2 then nB c E else if pc=3 then iO c E.t.au 0 E
 else if pc=10 then nD c E else if pc=11 then mB c E else if pc=12 then nC c E else iO c E.t.aq 10 E
def eL(pc:Int):Int:=if pc=21 then 22 else if pc=37 then 38 else if pc=30 then 31 else if pc=40 then 41 else if pc=41 then 42 else if pc=46 then 47 else if pc=47 then 48 else if pc=48 then 49 else if pc=49 then 40 else 43
def St.on(E:St):St:=E.sPc (eL E.t.pc)
def cY(E:St):Cnt × St:=let q:=cntF E.t.K;(q.1,must (q.2 && q.1.l) E)
def nE(c:Ch)(E:St):St:=
 let r:=loadS (bE c E.t.ai) E
 (must (decide ((r.1:Int)<=c.O) && (decide (0<r.1)||decide (E.t.pc=21))) (r.2.sF r.1)).on
def jG(c:Ch)(E:St):St:=
 let r:=loadS (bh (bE c E.t.ai)) E
 let q:=cY (r.2.sK r.1)
 let σ3:=must (q.1.f==decide (E.t.pc=22)) q.2
 if E.t.pc=38 then σ3.sPc 39 else either (decide (E.t.F≠0)) 23 24 σ3
def eu(c:Ch)(E:St):St:=
 let full:=decide (E.t.pc=24)
 let q:=cY E
 let w:=eM (bif full then q.1.i else q.1.o) q.1.o (!full) q.1.l
 let σ2:=must ((w.2==0) && ((decide (E.t.F=0)==full) && decide ((E.t.F:Int)<=c.O))) q.2
 if σ2.bad=true then σ2 else
  let r:=cas2S (bE c E.t.ai) E.t.F E.t.K 0 w.1.toNat σ2
  if r.1=false then either (decide (E.t.pc=39)) 37 21 r.2
  else if full=true then r.2.sPc 30 else either (decide (E.t.pc=39)) 46 40 (r.2.zI ((E.t.F:Int)-1))
def tL(c:Ch)(E:St):St:=let r:=loadS (bh (dO c E.t.aj)) E;(r.2.sT r.1).on
def oT(c:Ch)(E:St):St:=
 let r:=loadS (dO c E.t.aj) E
 let p:=fQ r.1
 let σ1:=(must (p.2.2 && decide (p.1<32)) r.2).sN r.1
 if p.1<0 then σ1.sPc 34 else(σ1.zJ p.1).sPc 32
def oU(c:Ch)(E:St):St:=
 let r:=loadS (fz c E.t.ai) E
 let p:=fQ r.1
 if p.2.2=false\/32<=p.1 then r.2.sPc 30 else(r.2.sF r.1).sPc 33
def tM(c:Ch)(E:St):St:=let q:=cas2S (dO c E.t.aj) E.t.N E.t.T E.t.F (inc E.t.T) E;either q.1 21 30 q.2
def tJ(c:Ch)(E:St):St:=let q:=rI (iu c) 0 1 E;either q.1 35 34 q.2
def mD(c:Ch)(E:St):St:=
 let r:=loadS (oc c) E
 let σ1:=must (decide (r.1<=32)) (r.2.sN r.1)
 if r.1=0\/σ1.bad=true then σ1.sPc 36 else(σ1.zJ ((r.1:Int)-1)).sPc 37
def lE(c:Ch)(E:St):St:=let σ1:=storeS (iu c) 0 E;if E.t.pc=36 then(σ1.DY 1).on else σ1.on
def tK(c:Ch)(E:St):St:=let r:=loadS (fz c E.t.ai) E;(must (decide (r.1<=32)) (r.2.sN r.1)).on
def tF(c:Ch)(E:St):St:=(storeS (oc c) E.t.N E).on
def tI(c:Ch)(E:St):St:=(xY (lI c) 18446744073709551615 E).on
def tG(c:Ch)(E:St):St:=let q:=cas2S (dm c E.t.aj) E.t.H E.t.T 0 (inc E.t.T) E;either q.1 21 0 q.2
def rR(c:Ch)(E:St):St:=
 let r:=loadS (eK c E.t.ai E.t.aq) E
 let p:=jq r.1 (gC c E.t.ai) E.t.aq
 ((must (p.2 && decide (p.1<c.O)) r.2).zH p.1).on
def tH(c:Ch)(E:St):St:=let r:=loadS (bh (dm c E.t.aj)) E;(r.2.sT r.1).on
def nG(c:Ch)(E:St):St:=
 let w:=gR E.t.ai E.t.au
 let σ1:=must (w.2==0) E
 if σ1.bad=true then σ1 else
  let q:=cas2S (dm c E.t.aj) 0 E.t.T w.1.toNat (inc E.t.T) σ1
  if q.1=true then q.2.zG 1 else q.2.sPc 41
def nF(c:Ch)(E:St):St:=
 let m1:=IntKind.i64.wrap (E.t.ay+1)
 let nx:=if(c.O:Int)<=m1 then-1 else m1
 let w:=gT nx (gC c E.t.ai) E.t.ay
 let σ1:=must (w.2==0) E
 if σ1.bad=true then σ1 else either (decide (nx<0)) 44 43 ((storeS (eK c E.t.ai E.t.ay) w.1.toNat σ1).Ls m1)
def rQ(c:Ch)(E:St):St:=
 let w:=eM c.O c.O true true
 ((storeS (bh (bE c E.t.ai)) w.1.toNat (must (w.2==0) E)).zI 0).sPc 40
abbrev kY(l:List Nat):List Value:=l.map λ(n:Nat)=>J n
structure bc(T:TypeId)(w:World)(b g:Nat)(ws:List Nat)(cnt:Nat):Prop where
 head:ak w b T #[.slice (g,0) ws.length ws.length,I cnt]
 row:ak w g 208 (kY ws).toArray
 ne:b≠g
structure Two(b g:Nat)(w w':World):Prop where
 os:w'.os=w.os
 tape:w'.tape=w.tape
 output:w'.output=w.output
 size:w.heap.size<=w'.heap.size
 block:∀k,k<w.heap.size->k≠b->k≠g->w'.heap[k]? =w.heap[k]?
section
variable{T:TypeId}{w w':World}{b g:Nat}{ws:List Nat}{cnt:Nat}
theorem bc.cell(h:bc T w b g ws cnt){i x:Nat}(hx:ws[i]? =some x):w.cell? (g,i)=J x:=by
 rw [h.row.cell,List.getElem?_toArray,XAa,hx];rfl
theorem bc.alloc(h:bc T w b g ws cnt)(o:Obj):bc T (w.alloc o) b g ws cnt:=⟨h.head.alloc o,h.row.alloc o,h.ne⟩
theorem bc.drewN(h:bc T w b g ws cnt)(n:Nat):bc T (w.drewN n) b g ws cnt:=⟨h.head,h.row,h.ne⟩
theorem bc.drew(h:bc T w b g ws cnt):bc T w.drew b g ws cnt:=⟨h.head,h.row,h.ne⟩
theorem bc.below(h:bc T w b g ws cnt)(hb:Below w w w'):bc T w' b g ws cnt:=⟨h.head.below hb,h.row.below hb,h.ne⟩
theorem bc.far(h:bc T w b g ws cnt){p:Addr}(h1:b≠p.block)(h2:g≠p.block)(u:Value):bc T (w.setCell p u) b g ws cnt:=⟨h.head.far h1 u,h.row.far h2 u,h.ne⟩
theorem bc.more(h:bc T w b g ws cnt)(n:Nat):bc T (w.setCell (b,1) (I n)) b g ws n:=⟨h.head.aJ 1 _,h.row.far (λe=>h.ne e.symm) _,h.ne⟩
theorem bc.put(h:bc T w b g ws cnt)(i x:Nat):bc T (w.setCell (g,i) (J x)) b g (ws.set i x) cnt:=by
 refine⟨?_,?_,h.ne⟩
 .rw [XAk];exact h.head.far h.ne _
 .have:=h.row.aJ i (J x)
  rwa [show(kY ws).toArray.setIfInBounds i (J x)=(kY (ws.set i x)).toArray by simp [List.map_set]] at this
theorem bc.two{b' g':Nat}(h:bc T w b g ws cnt)(ht:Two b' g' w w')(h1:b≠b')(h2:b≠g')(h3:g≠b')(h4:g≠g'):bc T w' b g ws cnt:=
 ⟨(ht.block b h.head.lt h1 h2).trans h.head,(ht.block g h.row.lt h3 h4).trans h.row,h.ne⟩
theorem Two.refl(b g:Nat)(w:World):Two b g w w:=⟨R,R,R,XAB _,λ_ _ _ _=>rfl⟩
theorem Two.alloc{a:World}(h:Two b g a w)(o:Obj):Two b g a (w.alloc o):=⟨h.os,h.tape,h.output,XAL h.size ql,λk hk h1 h2=>(XAX w o k (XAH hk h.size)).trans (h.block k hk h1 h2)⟩
theorem Two.drewN{a:World}(h:Two b g a w)(n:Nat):Two b g a (w.drewN n):=⟨h.os,h.tape,h.output,h.size,h.block⟩
theorem Two.drew{a:World}(h:Two b g a w):Two b g a w.drew:=⟨h.os,h.tape,h.output,h.size,h.block⟩
theorem Two.setB{a:World}(h:Two b g a w)(i:Nat)(u:Value):Two b g a (w.setCell (b,i) u):=
 ⟨h.os,h.tape,h.output,qbj,λk hk h1 h2=>(XAN w _ u k h1).trans (h.block k hk h1 h2)⟩
theorem Two.eE{a:World}(h:Two b g a w)(i:Nat)(u:Value):Two b g a (w.setCell (g,i) u):=
 ⟨h.os,h.tape,h.output,qbj,λk hk h1 h2=>(XAN w _ u k h2).trans (h.block k hk h1 h2)⟩
theorem Two.oa{a:World}(h:Two b g a w){p:Addr}(hp:a.heap.size<=p.block)(u:Value):Two b g a (w.setCell p u):=
 ⟨h.os,h.tape,h.output,qbj,λk hk h1 h2=>(XAN w _ u k qd).trans (h.block k hk h1 h2)⟩
theorem Two.trans{a w w':World}(h:Two b g a w)(h':Two b g w w'):Two b g a w':=
 ⟨h'.os.trans h.os,h'.tape.trans h.tape,h'.output.trans h.output,XAL h.size h'.size,λk hk h1 h2=>(h'.block k (XAH hk h.size) h1 h2).trans (h.block k hk h1 h2)⟩
theorem Two.below{a:World}{B:Nat}(h:Two b g w w')(hb:Below B a w)(h1:B<=b)(h2:B<=g)(h3:B<=w.heap.size):Below B a w':=
 hb.trans ⟨h.os,h.tape,h.output,h.size,λk hk=>h.block k qd qd qd⟩
end
theorem O5(w:World)(g i c p q:Nat)(x z v y:Int)(gp:g≠p)(gq:g≠q)(pq:p≠q)
 (cx:w.cell? (g,i)=J x)(fx:w.frozen? (g,i)=false)(cp:w.cell? (p,0)=J z)(fp:w.frozen? (p,0)=false)
 (cq:w.cell? (q,0)=J v)(hy:Hid (IntKind.u64.wrap (x+v)=y)):
  Z 352 #[.slice (g,i) 1 c,.pointer (p,0),.pointer (q,0)] w λe w'=>
   e=.returned (.tuple #[])/\w'=((w.setCell (p,0) (J x)).setCell (g,i) (J y)).drew:=by
 go_enter func352,ntmps352;go_wp2;go_region;all_goals go_wp2
 all_goals go_end0
 all_goals exact⟨R,by rw [hy.out]⟩
theorem GG(w:World)(g i c p q r:Nat)(x o v:Int)(z:Bool)(gp:g≠p)(gq:g≠q)(gr:g≠r)(pq:p≠q)(pr:p≠r)
 (cx:w.cell? (g,i)=J x)(fx:w.frozen? (g,i)=false)(cp:w.cell? (p,0)=some (.bool z))(fp:w.frozen? (p,0)=false)
 (cq:w.cell? (q,0)=J o)(cr:w.cell? (r,0)=J v):
  Z 348 #[.slice (g,i) 1 c,.pointer (q,0),.pointer (p,0),.pointer (r,0)] w λe w'=>
   e=.returned (.tuple #[])/\w'=(if x=o then(w.setCell (p,0) (.bool true)).setCell (g,i) (J v) else w.setCell (p,0) (.bool false)).drew:=by
 by_cases h:x=o
 .subst h;have hx:decide (x=x)=true:=by simp
  go_enter func348,ntmps348;go_wp2;go_region;all_goals go_wp2
  all_goals go_end0
  all_goals exact⟨R,R⟩
 .go_enter func348,ntmps348;go_wp2;go_region;all_goals go_wp2
  all_goals go_end0
  all_goals exact⟨R,R⟩
theorem GH(w:World)(g i c p q r t u:Nat)(x y o s v v':Int)(z:Bool)(gp:g≠p)(gq:g≠q)(gr:g≠r)(gt:g≠t)(gu:g≠u)(pq:p≠q)(pr:p≠r)(pt:p≠t)(pu:p≠u)
 (cx:w.cell? (g,i)=J x)(fx:w.frozen? (g,i)=false)(cy:w.cell? (g,i+1)=J y)(fy:w.frozen? (g,i+1)=false)
 (cp:w.cell? (p,0)=some (.bool z))(fp:w.frozen? (p,0)=false)
 (cq:w.cell? (q,0)=J o)(cr:w.cell? (r,0)=J s)(ct:w.cell? (t,0)=J v)(cu:w.cell? (u,0)=J v'):
  Z 358 #[.slice (g,i) 2 c,.pointer (q,0),.pointer (r,0),.pointer (p,0),.pointer (t,0),.pointer (u,0)] w λe w'=>
   e=.returned (.tuple #[])/\w'=(if x=o/\y=s then(((w.setCell (p,0) (.bool true)).drew.setCell (g,i) (J v)).setCell (g,i+1) (J v')).drew else(w.setCell (p,0) (.bool false)).drew):=by
 by_cases h:x=o
 .by_cases h':y=s
  .subst h h';go_enter func358,ntmps358;go_wp2;go_region;all_goals go_wp2
   all_goals go_region
   all_goals go_wp2
   all_goals go_end0
   all_goals exact⟨R,R⟩
  .subst h;go_enter func358,ntmps358;go_wp2;go_region;all_goals go_wp2
   all_goals go_end0
   all_goals exact⟨R,R⟩
 .go_enter func358,ntmps358;go_wp2;go_region;all_goals go_wp2
  all_goals go_end0
  all_goals exact⟨R,R⟩
theorem iv(fn:Fn)(first cap:Array Value)(w:World):(Instr.makeFunc fn first cap).run prog w=.ok (.func fn first cap) w:=rfl
theorem mK(a:Addr)(n:Nat)(w:World):(binOp .eql 297 (.slice (some a) n n) (.slice none 0 0)).run prog w=.ok (.bool false) w:=
 XEI w 297 208 (some a) n n 0 0 XEJ
theorem wrap_add(x v:Nat):IntKind.u64.wrap ((x:Int)+(v:Int))=(((x+v) % 18446744073709551616:Nat):Int):=by
 simp [IntKind.wrap,IntKind.bits,IntKind.signed]
theorem load_ok(w:World)(b g:Nat)(ws:List Nat)(cnt n:Nat)(hM:bc 340 w b g ws cnt)(hn:Hid (ws.length=n))(hn':n<=4096)(hc:cnt<=1000000)(i x:Nat)(hi:i<n)(hx:Hid (ws[i]? =some x)):
  Z 333 #[(b,0),I i] w λe w'=>
   e=.returned (.tuple #[J x,I 0])/\bc 340 w' b g ws (cnt+1)/\Two b g w w':=by
 have hH:=hM.head;rw [hn.out] at hH;have nb:=hH.lt;have ng:=hM.row.lt;have cb:=hH.cell;have db:=hH.frozen;have dg:=hM.row.frozen;have ne:=hM.ne;have hmf:= @iv;have hsn:=mK ⟨g,0,none⟩ n;have cg:=hM.cell hx.out;have i0:(0:Int)<=(i:Int):=qd
 have i1:(i:Int)<(n:Int):=qd;go_enter func333,ntmps333;go_wp2_with (first|go_in)
 go_returns
 exact⟨R,(hM.more (cnt+1)).alloc _,((Two.refl _ _ _).setB _ _).alloc _⟩
theorem load_err(w:World)(b g:Nat)(ws:List Nat)(cnt n:Nat)(hM:bc 340 w b g ws cnt)(hn:Hid (ws.length=n))(hn':n<=4096)(i:Int)(hi:i<0\/(n:Int)<=i):
  Z 333 #[(b,0),I i] w λe w'=>
   e=.returned (.tuple #[J 0,I 9])/\bc 340 w' b g ws cnt/\Two b g w w':=by
 have hH:=hM.head;rw [hn.out] at hH;have nb:=hH.lt;have ng:=hM.row.lt;have cb:=hH.cell;have db:=hH.frozen;have dg:=hM.row.frozen;have ne:=hM.ne;have hmf:= @iv;have hsn:=mK ⟨g,0,none⟩ n;go_enter func333,ntmps333;go_wp2_with (first|go_in);all_goals go_returns
 all_goals exact⟨R,hM.alloc _,(Two.refl _ _ _).alloc _⟩
theorem store_ok(w:World)(b g:Nat)(ws:List Nat)(cnt n:Nat)(hM:bc 340 w b g ws cnt)(hn:Hid (ws.length=n))(hn':n<=4096)(hc:cnt<=1000000)(i x:Nat)(hi:i<n)(hx:Hid (ws[i]? =some x))(v:Nat):
  Z 338 #[(b,0),I i,J v] w λe w'=>
   e=.returned (I 0)/\bc 340 w' b g (ws.set i v) (cnt+1)/\Two b g w w':=by
 have hH:=hM.head;rw [hn.out] at hH;have nb:=hH.lt;have ng:=hM.row.lt;have cb:=hH.cell;have db:=hH.frozen;have dg:=hM.row.frozen;have ne:=hM.ne;have hmf:= @iv;have hsn:=mK ⟨g,0,none⟩ n;have cg:=hM.cell hx.out;have i0:(0:Int)<=(i:Int):=qd
 have i1:(i:Int)<(n:Int):=qd;go_enter func338,ntmps338;go_wp2_with (first|go_in);go_ret;exact⟨R,((hM.more (cnt+1)).put i v).alloc _,(((Two.refl _ _ _).setB _ _).eE _ _).alloc _⟩
theorem store_err(w:World)(b g:Nat)(ws:List Nat)(cnt n:Nat)(hM:bc 340 w b g ws cnt)(hn:Hid (ws.length=n))(hn':n<=4096)(i:Int)(hi:i<0\/(n:Int)<=i)(v:Nat):
  Z 338 #[(b,0),I i,J v] w λe w'=>
   e=.returned (I 9)/\bc 340 w' b g ws cnt/\Two b g w w':=by
 have hH:=hM.head;rw [hn.out] at hH;have nb:=hH.lt;have ng:=hM.row.lt;have cb:=hH.cell;have db:=hH.frozen;have dg:=hM.row.frozen;have ne:=hM.ne;have hmf:= @iv;have hsn:=mK ⟨g,0,none⟩ n;go_enter func338,ntmps338;go_wp2_with (first|go_in);all_goals go_ret
 all_goals exact⟨R,hM.alloc _,(Two.refl _ _ _).alloc _⟩
theorem Pe(w:World)(b g:Nat)(ws:List Nat)(cnt n:Nat)(hM:bc 340 w b g ws cnt)(hn:Hid (ws.length=n))(hn':n<=4096)(hc:cnt<=1000000)(i x:Nat)(hi:i<n)(hx:Hid (ws[i]? =some x))(v:Nat):
  Z 306 #[(b,0),I i,J v] w λe w'=>
   e=.returned (.tuple #[J x,I 0])/\bc 340 w' b g (ws.set i ((x+v) % 18446744073709551616)) (cnt+1)/\Two b g w w':=by
 have hH:=hM.head;rw [hn.out] at hH;have nb:=hH.lt;have ng:=hM.row.lt;have cb:=hH.cell;have db:=hH.frozen;have dg:=hM.row.frozen;have ne:=hM.ne;have hmf:= @iv;have hsn:=mK ⟨g,0,none⟩ n;have hy:Hid (IntKind.u64.wrap ((x:Int)+(v:Int))=_):=wrap_add x v;generalize (x+v) % 18446744073709551616=y at hy ⊢;have cg:=hM.cell hx.out;have i0:(0:Int)<=(i:Int):=qd
 have i1:(i:Int)<(n:Int):=qd;go_enter func306,ntmps306;go_wp2_with (first|(go_at_call 352;refine(O5 _ g i (n-i) (w.heap.size+1) w.heap.size x 0 v _ qd qd qd (((((hM.more (cnt+1))).alloc _).alloc _).cell hx.out) (((((hM.more (cnt+1))).alloc _).alloc _).row.frozen _) qi qi qi hy).mono ?_;rintro e w1 ⟨rfl,rfl⟩)|go_in)
 go_returns
 exact⟨R,((((hM.more (cnt+1)).put i y).alloc _).alloc _).drew,(((((Two.refl _ _ _).setB _ _).eE _ _).alloc _).alloc _).drew⟩
theorem RF(w:World)(b g:Nat)(ws:List Nat)(cnt n:Nat)(hM:bc 340 w b g ws cnt)(hn:Hid (ws.length=n))(hn':n<=4096)(hc:cnt<=1000000)(i x:Nat)(hi:i<n)(hx:Hid (ws[i]? =some x))(o v:Nat)(h:(x:Int)=(o:Int)):
  Z 301 #[(b,0),I i,J o,J v] w λe w'=>
   e=.returned (.tuple #[.bool true,I 0])/\bc 340 w' b g (ws.set i v) (cnt+1)/\Two b g w w':=by
 have hH:=hM.head;rw [hn.out] at hH;have nb:=hH.lt;have ng:=hM.row.lt;have cb:=hH.cell;have db:=hH.frozen;have dg:=hM.row.frozen;have ne:=hM.ne;have hmf:= @iv;have hsn:=mK ⟨g,0,none⟩ n;have cg:=hM.cell hx.out;have i0:(0:Int)<=(i:Int):=qd
 have i1:(i:Int)<(n:Int):=qd;have h3:=((hH.alloc (.cells #[J o] 208)).alloc (.cells #[J v] 208)).alloc (.cells #[.bool false] 4);have l0:(((w.alloc (.cells #[J o] 208)).alloc (.cells #[J v] 208)).alloc (.cells #[.bool false] 4)).cell? (b,0)=some (.slice (g,0) n n):=h3.cell 0;have l1:(((w.alloc (.cells #[J o] 208)).alloc (.cells #[J v] 208)).alloc (.cells #[.bool false] 4)).cell? (b,1)=I cnt:=h3.cell 1;have l2:(((w.alloc (.cells #[J o] 208)).alloc (.cells #[J v] 208)).alloc (.cells #[.bool false] 4)).frozen? (b,1)=false:=h3.frozen 1;go_enter func301,ntmps301;go_wp2_with (first|(go_at_call 348;refine(GG _ g i (n-i) (w.heap.size+1+1) w.heap.size (w.heap.size+1) x o v false qd qd qd qd qd (((((hM.alloc _).alloc _).alloc _).more (cnt+1)).cell hx.out) (((((hM.alloc _).alloc _).alloc _).more (cnt+1)).row.frozen _) qi qi qi qi).mono ?_;rintro e w1 ⟨rfl,hw⟩;obtain⟨hM1,hT1,hP1⟩:bc 340 w1 b g (ws.set i v) (cnt+1)/\Two b g w w1/\ak w1 (w.heap.size+1+1) 4 #[.bool true]:=by { rw [hw,XAE h];exact⟨((((((hM.alloc _).alloc _).alloc _).more (cnt+1)).far (p:=⟨w.heap.size+1+1,0,none⟩) qfe qff _).put i v).drew,((((((Two.refl _ _ _).alloc _).alloc _).alloc _).setB _ _).oa qcd _).eE _ _|>.drew,((((ak.g_ w _ _ 4 _).far (p:=⟨b,1,none⟩) (by show w.heap.size+1+1≠b;omega) _).aJ 0 _).far (p:=⟨g,i,none⟩) (by show w.heap.size+1+1≠g;omega) _).drew⟩ };clear hw;have e1:w1.cell? (w.heap.size+1+1,0)=some (.bool true):=hP1.cell 0;have e2:=hP1.frozen 0;have e3:(w1.setCell (w.heap.size+1+1,0) (.bool true)).cell? (w.heap.size+1+1,0)=some (.bool true):=(hP1.aJ 0 _).cell 0)|go_in);refine XAI (v:=.tuple #[.bool true,I 0]) qhi R ?_;exact⟨R,hM1.far (p:=⟨w.heap.size+1+1,0,none⟩) qfe qff _,hT1.oa qcd _⟩
theorem RE(w:World)(b g:Nat)(ws:List Nat)(cnt n:Nat)(hM:bc 340 w b g ws cnt)(hn:Hid (ws.length=n))(hn':n<=4096)(hc:cnt<=1000000)(i x:Nat)(hi:i<n)(hx:Hid (ws[i]? =some x))(o v:Nat)(h:(x:Int)≠(o:Int)):
  Z 301 #[(b,0),I i,J o,J v] w λe w'=>
   e=.returned (.tuple #[.bool false,I 0])/\bc 340 w' b g ws (cnt+1)/\Two b g w w':=by
 have hH:=hM.head;rw [hn.out] at hH;have nb:=hH.lt;have ng:=hM.row.lt;have cb:=hH.cell;have db:=hH.frozen;have dg:=hM.row.frozen;have ne:=hM.ne;have hmf:= @iv;have hsn:=mK ⟨g,0,none⟩ n;have cg:=hM.cell hx.out;have i0:(0:Int)<=(i:Int):=qd
 have i1:(i:Int)<(n:Int):=qd;have h3:=((hH.alloc (.cells #[J o] 208)).alloc (.cells #[J v] 208)).alloc (.cells #[.bool false] 4);have l0:(((w.alloc (.cells #[J o] 208)).alloc (.cells #[J v] 208)).alloc (.cells #[.bool false] 4)).cell? (b,0)=some (.slice (g,0) n n):=h3.cell 0;have l1:(((w.alloc (.cells #[J o] 208)).alloc (.cells #[J v] 208)).alloc (.cells #[.bool false] 4)).cell? (b,1)=I cnt:=h3.cell 1;have l2:(((w.alloc (.cells #[J o] 208)).alloc (.cells #[J v] 208)).alloc (.cells #[.bool false] 4)).frozen? (b,1)=false:=h3.frozen 1;go_enter func301,ntmps301;go_wp2_with (first|(go_at_call 348;refine(GG _ g i (n-i) (w.heap.size+1+1) w.heap.size (w.heap.size+1) x o v false qd qd qd qd qd (((((hM.alloc _).alloc _).alloc _).more (cnt+1)).cell hx.out) (((((hM.alloc _).alloc _).alloc _).more (cnt+1)).row.frozen _) qi qi qi qi).mono ?_;rintro e w1 ⟨rfl,hw⟩;obtain⟨hM1,hT1,hP1⟩:bc 340 w1 b g ws (cnt+1)/\Two b g w w1/\ak w1 (w.heap.size+1+1) 4 #[.bool false]:=by { rw [hw,XAD h];exact⟨(((((hM.alloc _).alloc _).alloc _).more (cnt+1)).far (p:=⟨w.heap.size+1+1,0,none⟩) qfe qff _).drew,(((((Two.refl _ _ _).alloc _).alloc _).alloc _).setB _ _).oa qcd _|>.drew,(((ak.g_ w _ _ 4 _).far (p:=⟨b,1,none⟩) (by show w.heap.size+1+1≠b;omega) _).aJ 0 _).drew⟩ };clear hw;have e1:w1.cell? (w.heap.size+1+1,0)=some (.bool false):=hP1.cell 0;have e2:=hP1.frozen 0;have e3:(w1.setCell (w.heap.size+1+1,0) (.bool false)).cell? (w.heap.size+1+1,0)=some (.bool false):=(hP1.aJ 0 _).cell 0)|go_in);refine XAI (v:=.tuple #[.bool false,I 0]) qhi R ?_;exact⟨R,hM1.far (p:=⟨w.heap.size+1+1,0,none⟩) qfe qff _,hT1.oa qcd _⟩
theorem ak.Ks(w:World)(o1 o2 o3 o4:Obj)(t:TypeId)(cs:Array Value):ak (((((w.alloc o1).alloc o2).alloc o3).alloc o4).alloc (.cells cs t)) (w.heap.size+1+1+1+1) t cs:=by
 have k:=ak.g_ ((w.alloc o1).alloc o2) o3 o4 t cs;rw [XAT,XAT] at k;exact k
theorem cas2_yes(w:World)(b g:Nat)(ws:List Nat)(cnt n:Nat)(hM:bc 340 w b g ws cnt)(hn:Hid (ws.length=n))(hn':n<=4096)(hc:cnt<=1000000)(i x y:Nat)(hi:i+1<n)(hx:Hid (ws[i]? =some x))(hy:Hid (ws[i+1]? =some y))(o s v v2:Nat)(h:(x:Int)=(o:Int)/\(y:Int)=(s:Int)):
  Z 339 #[(b,0),I i,J o,J s,J v,J v2] w λe w'=>
   e=.returned (.tuple #[.bool true,I 0])/\bc 340 w' b g ((ws.set i v).set (i+1) v2) (cnt+1)/\Two b g w w':=by
 have hH:=hM.head;rw [hn.out] at hH;have nb:=hH.lt;have ng:=hM.row.lt;have cb:=hH.cell;have db:=hH.frozen;have dg:=hM.row.frozen;have ne:=hM.ne;have hmf:= @iv;have hsn:=mK ⟨g,0,none⟩ n;have h5:=(((((hH.alloc (.cells #[J o] 208)).alloc (.cells #[J s] 208)).alloc (.cells #[J v] 208)).alloc (.cells #[J v2] 208)).alloc (.cells #[.bool false] 4));have l0:(((((w.alloc (.cells #[J o] 208)).alloc (.cells #[J s] 208)).alloc (.cells #[J v] 208)).alloc (.cells #[J v2] 208)).alloc (.cells #[.bool false] 4)).cell? (b,0)=some (.slice (g,0) n n):=h5.cell 0;have l1:(((((w.alloc (.cells #[J o] 208)).alloc (.cells #[J s] 208)).alloc (.cells #[J v] 208)).alloc (.cells #[J v2] 208)).alloc (.cells #[.bool false] 4)).cell? (b,1)=I cnt:=h5.cell 1;have l2:(((((w.alloc (.cells #[J o] 208)).alloc (.cells #[J s] 208)).alloc (.cells #[J v] 208)).alloc (.cells #[J v2] 208)).alloc (.cells #[.bool false] 4)).frozen? (b,1)=false:=h5.frozen 1;have i0:(0:Int)<=(i:Int):=qd
 have i1:(i:Int)+1<(n:Int):=qd;go_enter func339,ntmps339;go_wp2_with (first|(go_at_call 358;refine(GH _ g i (n-i) (w.heap.size+1+1+1+1) w.heap.size (w.heap.size+1) (w.heap.size+1+1) (w.heap.size+1+1+1) x y o s v v2 false qd qd qd qd qd qd qd qd qd (((((((hM.alloc _).alloc _).alloc _).alloc _).alloc _).more (cnt+1)).cell hx.out) (((((((hM.alloc _).alloc _).alloc _).alloc _).alloc _).more (cnt+1)).row.frozen _) (((((((hM.alloc _).alloc _).alloc _).alloc _).alloc _).more (cnt+1)).cell hy.out) (((((((hM.alloc _).alloc _).alloc _).alloc _).alloc _).more (cnt+1)).row.frozen _) qi qi qi qi qi qi).mono ?_;rintro e w1 ⟨rfl,hw⟩;obtain⟨hM1,hT1,hP1⟩:bc 340 w1 b g ((ws.set i v).set (i+1) v2) (cnt+1)/\Two b g w w1/\ak w1 (w.heap.size+1+1+1+1) 4 #[.bool true]:=by { rw [hw,XAE h];exact⟨((((((((((hM.alloc _).alloc _).alloc _).alloc _).alloc _).more (cnt+1)).far (p:=⟨w.heap.size+1+1+1+1,0,none⟩) qep qeq _).drew.put i v).put (i+1) v2).drew),((((((((((Two.refl _ _ _).alloc _).alloc _).alloc _).alloc _).alloc _).setB _ _).oa qdj _).drew.eE _ _).eE _ _).drew,((((((ak.Ks w _ _ _ _ 4 _).far (p:=⟨b,1,none⟩) (by show w.heap.size+1+1+1+1≠b;omega) _).aJ 0 _).drew.far (p:=⟨g,i,none⟩) (by show w.heap.size+1+1+1+1≠g;omega) _).far (p:=⟨g,i+1,none⟩) (by show w.heap.size+1+1+1+1≠g;omega) _).drew)⟩ };clear hw;have e1:w1.cell? (w.heap.size+1+1+1+1,0)=some (.bool true):=hP1.cell 0;have e2:=hP1.frozen 0;have e3:(w1.setCell (w.heap.size+1+1+1+1,0) (.bool true)).cell? (w.heap.size+1+1+1+1,0)=some (.bool true):=(hP1.aJ 0 _).cell 0)|go_in);refine XAI (v:=.tuple #[.bool true,I 0]) qhj R ?_;exact⟨R,hM1.far (p:=⟨w.heap.size+1+1+1+1,0,none⟩) qep qeq _,hT1.oa qdj _⟩
theorem cas2_no(w:World)(b g:Nat)(ws:List Nat)(cnt n:Nat)(hM:bc 340 w b g ws cnt)(hn:Hid (ws.length=n))(hn':n<=4096)(hc:cnt<=1000000)(i x y:Nat)(hi:i+1<n)(hx:Hid (ws[i]? =some x))(hy:Hid (ws[i+1]? =some y))(o s v v2:Nat)(h:¬((x:Int)=(o:Int)/\(y:Int)=(s:Int))):
  Z 339 #[(b,0),I i,J o,J s,J v,J v2] w λe w'=>
   e=.returned (.tuple #[.bool false,I 0])/\bc 340 w' b g ws (cnt+1)/\Two b g w w':=by
 have hH:=hM.head;rw [hn.out] at hH;have nb:=hH.lt;have ng:=hM.row.lt;have cb:=hH.cell;have db:=hH.frozen;have dg:=hM.row.frozen;have ne:=hM.ne;have hmf:= @iv;have hsn:=mK ⟨g,0,none⟩ n;have h5:=(((((hH.alloc (.cells #[J o] 208)).alloc (.cells #[J s] 208)).alloc (.cells #[J v] 208)).alloc (.cells #[J v2] 208)).alloc (.cells #[.bool false] 4));have l0:(((((w.alloc (.cells #[J o] 208)).alloc (.cells #[J s] 208)).alloc (.cells #[J v] 208)).alloc (.cells #[J v2] 208)).alloc (.cells #[.bool false] 4)).cell? (b,0)=some (.slice (g,0) n n):=h5.cell 0;have l1:(((((w.alloc (.cells #[J o] 208)).alloc (.cells #[J s] 208)).alloc (.cells #[J v] 208)).alloc (.cells #[J v2] 208)).alloc (.cells #[.bool false] 4)).cell? (b,1)=I cnt:=h5.cell 1;have l2:(((((w.alloc (.cells #[J o] 208)).alloc (.cells #[J s] 208)).alloc (.cells #[J v] 208)).alloc (.cells #[J v2] 208)).alloc (.cells #[.bool false] 4)).frozen? (b,1)=false:=h5.frozen 1;have i0:(0:Int)<=(i:Int):=qd
 have i1:(i:Int)+1<(n:Int):=qd;go_enter func339,ntmps339;go_wp2_with (first|(go_at_call 358;refine(GH _ g i (n-i) (w.heap.size+1+1+1+1) w.heap.size (w.heap.size+1) (w.heap.size+1+1) (w.heap.size+1+1+1) x y o s v v2 false qd qd qd qd qd qd qd qd qd (((((((hM.alloc _).alloc _).alloc _).alloc _).alloc _).more (cnt+1)).cell hx.out) (((((((hM.alloc _).alloc _).alloc _).alloc _).alloc _).more (cnt+1)).row.frozen _) (((((((hM.alloc _).alloc _).alloc _).alloc _).alloc _).more (cnt+1)).cell hy.out) (((((((hM.alloc _).alloc _).alloc _).alloc _).alloc _).more (cnt+1)).row.frozen _) qi qi qi qi qi qi).mono ?_;rintro e w1 ⟨rfl,hw⟩;obtain⟨hM1,hT1,hP1⟩:bc 340 w1 b g ws (cnt+1)/\Two b g w w1/\ak w1 (w.heap.size+1+1+1+1) 4 #[.bool false]:=by { rw [hw,XAD h];exact⟨(((((((hM.alloc _).alloc _).alloc _).alloc _).alloc _).more (cnt+1)).far (p:=⟨w.heap.size+1+1+1+1,0,none⟩) qep qeq _).drew,((((((((Two.refl _ _ _).alloc _).alloc _).alloc _).alloc _).alloc _).setB _ _).oa qdj _).drew,(((ak.Ks w _ _ _ _ 4 _).far (p:=⟨b,1,none⟩) (by show w.heap.size+1+1+1+1≠b;omega) _).aJ 0 _).drew⟩ };clear hw;have e1:w1.cell? (w.heap.size+1+1+1+1,0)=some (.bool false):=hP1.cell 0;have e2:=hP1.frozen 0;have e3:(w1.setCell (w.heap.size+1+1+1+1,0) (.bool false)).cell? (w.heap.size+1+1+1+1,0)=some (.bool false):=(hP1.aJ 0 _).cell 0)|go_in);refine XAI (v:=.tuple #[.bool false,I 0]) qhj R ?_;exact⟨R,hM1.far (p:=⟨w.heap.size+1+1+1+1,0,none⟩) qep qeq _,hT1.oa qdj _⟩
theorem cas2_err(w:World)(b g:Nat)(ws:List Nat)(cnt n:Nat)(hM:bc 340 w b g ws cnt)(hn:Hid (ws.length=n))(hn':n<=4096)(i:Int)(hi:i<0\/(n:Int)<=i+1)(o s v v2:Nat):
  Z 339 #[(b,0),I i,J o,J s,J v,J v2] w λe w'=>
   e=.returned (.tuple #[.bool false,I 9])/\bc 340 w' b g ws cnt/\Two b g w w':=by
 have hH:=hM.head;rw [hn.out] at hH;have nb:=hH.lt;have ng:=hM.row.lt;have cb:=hH.cell;have db:=hH.frozen;have dg:=hM.row.frozen;have ne:=hM.ne;have hmf:= @iv;have hsn:=mK ⟨g,0,none⟩ n;have h5:=(((((hH.alloc (.cells #[J o] 208)).alloc (.cells #[J s] 208)).alloc (.cells #[J v] 208)).alloc (.cells #[J v2] 208)).alloc (.cells #[.bool false] 4));have l0:(((((w.alloc (.cells #[J o] 208)).alloc (.cells #[J s] 208)).alloc (.cells #[J v] 208)).alloc (.cells #[J v2] 208)).alloc (.cells #[.bool false] 4)).cell? (b,0)=some (.slice (g,0) n n):=h5.cell 0;have l1:(((((w.alloc (.cells #[J o] 208)).alloc (.cells #[J s] 208)).alloc (.cells #[J v] 208)).alloc (.cells #[J v2] 208)).alloc (.cells #[.bool false] 4)).cell? (b,1)=I cnt:=h5.cell 1;have l2:(((((w.alloc (.cells #[J o] 208)).alloc (.cells #[J s] 208)).alloc (.cells #[J v] 208)).alloc (.cells #[J v2] 208)).alloc (.cells #[.bool false] 4)).frozen? (b,1)=false:=h5.frozen 1;go_enter func339,ntmps339;go_wp2_with (first|go_in);all_goals go_returns
 all_goals exact⟨R,(((((hM.alloc _).alloc _).alloc _).alloc _).alloc _),(((((Two.refl _ _ _).alloc _).alloc _).alloc _).alloc _).alloc _⟩
end Go.Proofs.YtedefgjfgdcfdaaGreatDoor
