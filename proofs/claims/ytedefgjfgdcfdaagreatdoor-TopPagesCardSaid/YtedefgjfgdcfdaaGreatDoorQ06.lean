/- Walks and laws for TopPages. -/
import Derived.Test.YtedefgjfgdcfdaaGreatDoorQ01
import Derived.MapKept
import Derived.Laws.BitsLemmas
import Derived.Deep.RegionHeld3
namespace Go.Proofs.YtedefgjfgdcfdaaGreatDoor
open Go.RowKit Go.Proofs.Tryz
set_option maxRecDepth 100000
set_option maxHeartbeats 4000000
theorem vP(w:World)(o:Obj):(w.alloc o).heap[w.heap.size]? =some o:=(MapKept.heap_alloc w o).1
theorem aap(w:World)(o o':Obj):({ w.alloc o with heap:=(w.alloc o).heap.setIfInBounds w.heap.size o' } :World)=w.alloc o':=by
 show({ w with heap:=(w.heap.push o).setIfInBounds w.heap.size o' } :World)= { w with heap:=w.heap.push o' }
 congr 1
 apply XDO;intro i;rw [XDN,Array.getElem?_push,Array.getElem?_push];by_cases hi:w.heap.size=i
 .subst hi;simp
 .rw [XAD hi,XAD (λh=>hi h.symm),XAD (λh=>hi h.symm)]
theorem kW{P:Program}(mty kt et:TypeId)(q:IntKind)(hm:P.underlying mty=some (.map kt et))(hk:P.underlying kt=some (.int q))(w:World)(es:List MapEntry)(clock:Nat)(n:Int)(val:Value)
 (hf:Instr.findNow (.int q) (.int q n) es 0=some none):
  (Instr.mapUpdate mty (.map (some w.heap.size)) (.int q n) val).run P (w.alloc (.map es.toArray clock))=.ok () (w.alloc (.map (es++ [({ key:=.int q n,val:=val,born:=clock } :MapEntry)]).toArray (clock+1))):=by
 have hb:=vP w (.map es.toArray clock);have hc:(Instr.checkKey false 10000 kt (.int q n)).run P (w.alloc (.map es.toArray clock))=.ok () _:=XEX (k:=.int q n) hk qkl false 9999;simp [Instr.mapUpdate,XBv hm,XCY hb,hc,XC3 hk hf,MapKept.run_setObj_map _ hb,Result.andThen];exact aap _ _ _
theorem aad{P:Program}(mty kt et:TypeId)(q:IntKind)(hm:P.underlying mty=some (.map kt et))(hk:P.underlying kt=some (.int q))(hz:∀w,(zeroValue et).run P w=.ok (.agg #[]) w){w:World}{r:Nat}{es:Array MapEntry}{clock:Nat}
 (hb:w.heap[r]? =some (.map es clock))(n:Int)(b:Bool)
 (hf:∃a,Instr.findNow (.int q) (.int q n) es.toList 0=some a/\((b=false/\a=none)\/(b=true/\∃i,a=some (i,.agg #[])))):
  (Instr.lookup mty (.map (some r)) (.int q n) true).run P w=.ok (.tuple #[.agg #[],.bool b]) w:=by
 have hc:(Instr.checkKey es.isEmpty 10000 kt (.int q n)).run P w=.ok () w:=XEX (k:=.int q n) hk qkl _ 9999;obtain⟨a,hfa,h⟩:=hf;rcases h with⟨rfl,rfl⟩|⟨rfl,i,rfl⟩
 .simp [Instr.lookup,XBv hm,XCY hb,hc,XC3 hk hfa,hz,Result.andThen]
 .simp [Instr.lookup,XBv hm,XCY hb,hc,XC3 hk hfa,Result.andThen]
structure Lay where
 sz:Int
 al:Int
 st:Int
 off:Int
 ord:Int
 aq:Int
 was:Int
 deriving DecidableEq
def uf:Lay:=⟨0,0,0,0,0,0,0⟩
def fT(n m:Int):Int:=(n+m-1) / m*m
def dr:Nat->Int
 |0=>256
 |n+1=>dr n*2
def aX(l:Lay)(o:Nat):Lay:= { l with ord:=o,aq:=min (dr o / l.st) 16,was:=dr o-min (dr o / l.st) 16*l.st }
def scan(l:Lay):Nat->Nat->Option Lay->Lay × Int
 |0,_,none=>(uf,150)
 |0,_,some x=>(x,0)
 |n+1,o,first=>if(aX l o).aq=0 then scan l n (o+1) first else if(aX l o).was*8<=dr o then(aX l o,0) else scan l n (o+1) (match first with|some x=>some x|none=>some (aX l o))
def m_(a:Int):Bool:=a==1||(a==2||(a==4||(a==8||(a==16||(a==32||a==64)))))
def DG(a:Int)(g:Bool):Int:=if g=true then fT 8 a else 0
def nS(s a:Int)(g:Bool):Int:=if g=true then s+(fT 8 a+8) else s
def Gx(s a:Int)(g:Bool):Lay:=⟨s,a,fT (nS s a g) (max 8 a),DG a g,0,0,0⟩
def wE(s a:Int):Bool:=decide (1<=s) && (decide (s<=2048) && m_ a)
def so(s a:Int)(g:Bool):Lay × Int:=if wE s a=true then scan (Gx s a g) 4 0 none else(uf,2)
theorem Bk(a:Int):m_ a=true↔a=1\/a=2\/a=4\/a=8\/a=16\/a=32\/a=64:=by simp [m_]
theorem KK(s a:Int):wE s a=true↔1<=s/\s<=2048/\(a=1\/a=2\/a=4\/a=8\/a=16\/a=32\/a=64):=by simp [wE,Bk]
theorem GB:∀o,0<dr o
 |0=>qf
 |n+1=>by have:=GB n;unfold dr;omega
theorem KC{l:Lay}(h:1<=l.st)(o:Nat):0<=(aX l o).aq:=by
 have h1:=XDF (Int.le_of_lt (GB o)) (show 0<=l.st from qd);show 0<=min (dr o / l.st) 16;omega
theorem aco(l:Lay)(o:Nat):(aX l o).was+(aX l o).aq*(aX l o).st=dr o:=by
 show dr o-min (dr o / l.st) 16*l.st+min (dr o / l.st) 16*l.st=dr o;omega
theorem wU{n m:Int}(hm:1<=m):n<=fT n m/\fT n m<=n+m-1/\fT n m % m=0:=by
 unfold fT;have h1:=Int.mul_ediv_add_emod (n+m-1) m;have h2:=XBH (n+m-1) (show m≠0 from qd);have h3:=XBW (n+m-1) (show 0<m from qd);rw [Int.mul_comm] at h1;exact⟨qd,qd,Int.mul_emod_left _ _⟩
theorem Ea(n m:Int)(hn:0<=n)(hn':n<=100000)(hm:1<=m)(hm':m<=100000)(w:World):Z 210 #[I n,I m] w λe w'=>
  e=.returned (I (fT n m))/\w'=w:=by
 have hb:=wU (n:=n) hm;unfold fT at*;obtain⟨hb1,hb2,-⟩:=hb;go_enter func210,ntmps210;go_wp2;go_ret;exact⟨R,R⟩
def ey(x:Lay):Value:=.agg #[I x.sz,I x.al,I x.st,I x.off,I x.ord,I x.aq,I x.was]
theorem abx(l:Lay)(k:Nat)(hk:k<=3)(h1:1<=l.st)(h2:l.st<=100000)(w:World):
  Z 211 #[.agg #[I l.sz,I l.al,I l.st,I l.off,I l.ord,I l.aq,I l.was],I k] w λe w'=>
   e=.returned (ey (aX l k))/\Below w w w':=by
 obtain rfl|rfl|rfl|rfl:k=0\/k=1\/k=2\/k=3:=qd
 .have e0:dr 0=256:=by decide
  have q1:256 / l.st*l.st<=256:=XDG _ qd;have q0:0<=256 / l.st:=XDF qd qd;have q2:0<=256 / l.st*l.st:=XCa q0 qd;by_cases hm:16<256 / l.st
  .have hs:ey (aX l 0)=.agg #[I l.sz,I l.al,I l.st,I l.off,I 0,I 16,I (256-16*l.st)]:=by
    have e1:min (256 / l.st) 16=16:=qd;simp [ey,aX,e0,e1]
   rw [hs];clear hs e0;go_enter func211,ntmps211;go_wp2;exact XAI (v:=.agg #[I l.sz,I l.al,I l.st,I l.off,I 0,I 16,I (256-16*l.st)]) qbu R ⟨R,qa⟩
  .have hs:ey (aX l 0)=.agg #[I l.sz,I l.al,I l.st,I l.off,I 0,I (256 / l.st),I (256-256 / l.st*l.st)]:=by
    have e1:min (256 / l.st) 16=256 / l.st:=qd;simp [ey,aX,e0,e1]
   rw [hs];clear hs e0;go_enter func211,ntmps211;go_wp2;exact XAI (v:=.agg #[I l.sz,I l.al,I l.st,I l.off,I 0,I (256 / l.st),I (256-256 / l.st*l.st)]) qbu R ⟨R,qa⟩
 .have e0:dr 1=512:=by decide
  have q1:512 / l.st*l.st<=512:=XDG _ qd;have q0:0<=512 / l.st:=XDF qd qd;have q2:0<=512 / l.st*l.st:=XCa q0 qd;by_cases hm:16<512 / l.st
  .have hs:ey (aX l 1)=.agg #[I l.sz,I l.al,I l.st,I l.off,I 1,I 16,I (512-16*l.st)]:=by
    have e1:min (512 / l.st) 16=16:=qd;simp [ey,aX,e0,e1]
   rw [hs];clear hs e0;go_enter func211,ntmps211;go_wp2;exact XAI (v:=.agg #[I l.sz,I l.al,I l.st,I l.off,I 1,I 16,I (512-16*l.st)]) qbu R ⟨R,qa⟩
  .have hs:ey (aX l 1)=.agg #[I l.sz,I l.al,I l.st,I l.off,I 1,I (512 / l.st),I (512-512 / l.st*l.st)]:=by
    have e1:min (512 / l.st) 16=512 / l.st:=qd;simp [ey,aX,e0,e1]
   rw [hs];clear hs e0;go_enter func211,ntmps211;go_wp2;exact XAI (v:=.agg #[I l.sz,I l.al,I l.st,I l.off,I 1,I (512 / l.st),I (512-512 / l.st*l.st)]) qbu R ⟨R,qa⟩
 .have e0:dr 2=1024:=by decide
  have q1:1024 / l.st*l.st<=1024:=XDG _ qd;have q0:0<=1024 / l.st:=XDF qd qd;have q2:0<=1024 / l.st*l.st:=XCa q0 qd;by_cases hm:16<1024 / l.st
  .have hs:ey (aX l 2)=.agg #[I l.sz,I l.al,I l.st,I l.off,I 2,I 16,I (1024-16*l.st)]:=by
    have e1:min (1024 / l.st) 16=16:=qd;simp [ey,aX,e0,e1]
   rw [hs];clear hs e0;go_enter func211,ntmps211;go_wp2;exact XAI (v:=.agg #[I l.sz,I l.al,I l.st,I l.off,I 2,I 16,I (1024-16*l.st)]) qbu R ⟨R,qa⟩
  .have hs:ey (aX l 2)=.agg #[I l.sz,I l.al,I l.st,I l.off,I 2,I (1024 / l.st),I (1024-1024 / l.st*l.st)]:=by
    have e1:min (1024 / l.st) 16=1024 / l.st:=qd;simp [ey,aX,e0,e1]
   rw [hs];clear hs e0;go_enter func211,ntmps211;go_wp2;exact XAI (v:=.agg #[I l.sz,I l.al,I l.st,I l.off,I 2,I (1024 / l.st),I (1024-1024 / l.st*l.st)]) qbu R ⟨R,qa⟩
 .have e0:dr 3=2048:=by decide
  have q1:2048 / l.st*l.st<=2048:=XDG _ qd;have q0:0<=2048 / l.st:=XDF qd qd;have q2:0<=2048 / l.st*l.st:=XCa q0 qd;by_cases hm:16<2048 / l.st
  .have hs:ey (aX l 3)=.agg #[I l.sz,I l.al,I l.st,I l.off,I 3,I 16,I (2048-16*l.st)]:=by
    have e1:min (2048 / l.st) 16=16:=qd;simp [ey,aX,e0,e1]
   rw [hs];clear hs e0;go_enter func211,ntmps211;go_wp2;exact XAI (v:=.agg #[I l.sz,I l.al,I l.st,I l.off,I 3,I 16,I (2048-16*l.st)]) qbu R ⟨R,qa⟩
  .have hs:ey (aX l 3)=.agg #[I l.sz,I l.al,I l.st,I l.off,I 3,I (2048 / l.st),I (2048-2048 / l.st*l.st)]:=by
    have e1:min (2048 / l.st) 16=2048 / l.st:=qd;simp [ey,aX,e0,e1]
   rw [hs];clear hs e0;go_enter func211,ntmps211;go_wp2;exact XAI (v:=.agg #[I l.sz,I l.al,I l.st,I l.off,I 3,I (2048 / l.st),I (2048-2048 / l.st*l.st)]) qbu R ⟨R,qa⟩
theorem Pu:∀x:Fin 65,1<=x.val->((bits .and .i64 (x.val:Int) ((x.val:Int)-1) !=0)= !m_ (x.val:Int)):=qco
theorem FX{a:Int}(h1:1<=a)(h2:a<=64):(bits .and .i64 a (a-1) !=0)= !m_ a:=by
 obtain⟨n,rfl⟩:=XAb (show 0<=a from qd);exact Pu ⟨n,qd⟩ qj
def jL(x:Lay):Array Value:=#[I x.sz,I x.al,I x.st,I x.off,I x.ord,I x.aq,I x.was]
theorem Zs(s a:Int)(g:Bool)(h:wE s a=false)(w:World):Z 166 #[I s,I a,.bool g] w λe w'=>
  e=.returned (.tuple #[ey uf,I 2])/\Below w w w':=by
 have hn:¬(1<=s/\s<=2048/\m_ a=true):=by rw [Bk,<-KK,h];exact XCX
 by_cases h1:s<1
 .clear hn h;go_enter func166,ntmps166;go_wp2;exact XAI (v:=.tuple #[.agg #[I 0,I 0,I 0,I 0,I 0,I 0,I 0],I 2]) qcz R ⟨R,qa⟩
 by_cases h2:2048<s
 .clear hn h;go_enter func166,ntmps166;go_wp2;exact XAI (v:=.tuple #[.agg #[I 0,I 0,I 0,I 0,I 0,I 0,I 0],I 2]) qcz R ⟨R,qa⟩
 by_cases h3:a<1
 .clear hn h;go_enter func166,ntmps166;go_wp2;exact XAI (v:=.tuple #[.agg #[I 0,I 0,I 0,I 0,I 0,I 0,I 0],I 2]) qcz R ⟨R,qa⟩
 by_cases h4:64<a
 .clear hn h;go_enter func166,ntmps166;go_wp2;exact XAI (v:=.tuple #[.agg #[I 0,I 0,I 0,I 0,I 0,I 0,I 0],I 2]) qcz R ⟨R,qa⟩
 have hk:m_ a=false:=by
  cases hx:m_ a
  .rfl
  .exact absurd ⟨qd,qd,hx⟩ hn
 have hb:=FX (a:=a) qd qd;rw [hk] at hb;clear hn h hk;go_enter func166,ntmps166;go_wp2;exact XAI (v:=.tuple #[.agg #[I 0,I 0,I 0,I 0,I 0,I 0,I 0],I 2]) qcz R ⟨R,qa⟩
def rC(a:Int):Bool:=a==8||a==16||a==32||a==64
def okB(s a f:Int):Bool:=rC a && (decide (1<=s) && (decide (s<=1024) && (decide (0<=f) && decide (f<=7))))
def errOf(s a f:Int):Int:=if okB s a f=true then 0 else 2
def stepOf(s a f:Int):Int:=if okB s a f=true then(s+a-1) / a*a else 0
def mQ(s a f s' a' f':Int):Bool:=okB s a f && (okB s' a' f' && (f==0 && (f'==0 && (stepOf s a f==stepOf s' a' f' && a % a'==0))))
theorem Pn(a:Int):rC a=true↔a=8\/a=16\/a=32\/a=64:=by
 simp [rC,or_assoc]
theorem wD(s a f:Int):okB s a f=true↔(a=8\/a=16\/a=32\/a=64)/\1<=s/\s<=1024/\0<=f/\f<=7:=by
 simp [okB,Pn]
theorem yy{s a f:Int}(h:okB s a f=true):errOf s a f=0:=by simp [errOf,h]
theorem Cd{s a f:Int}(h:okB s a f=false):errOf s a f=2:=by simp [errOf,h]
theorem aa4{s a f:Int}(h:okB s a f=true):stepOf s a f=(s+a-1) / a*a:=by simp [stepOf,h]
theorem aa3{s a f:Int}(h:okB s a f=false):stepOf s a f=0:=by simp [stepOf,h]
theorem S0{s a f:Int}(h:rC a=true)(h1:1<=s)(h2:s<=1024)(h3:0<=f)(h4:f<=7):0=errOf s a f:=by
 simp [errOf,okB, *]
theorem SY{s a f:Int}(h:¬rC a=true):2=errOf s a f:=by
 simp [errOf,okB,h]
theorem SZ{s a f:Int}(h:s<1\/1024<s\/f<0\/7<f):2=errOf s a f:=by
 rw [errOf,XAD];rw [wD];omega
def Bl:List MapEntry:= [⟨I 8,.agg #[],0⟩,⟨I 16,.agg #[],1⟩,⟨I 32,.agg #[],2⟩,⟨I 64,.agg #[],3⟩]
theorem Po(w:World):Z 268 #[] w λe w'=>
  e=.returned (.map (some w.heap.size))/\w'=w.alloc (.map Bl.toArray 4):=by
 have hmm:= @XCb prog;have h1:=kW (P:=prog) 344 3 342 .i64 XDH XAW w [] 0 8 (.agg #[]) rfl;have h2:=kW (P:=prog) 344 3 342 .i64 XDH XAW w [⟨I 8,.agg #[],0⟩] 1 16 (.agg #[]) rfl;have h3:=kW (P:=prog) 344 3 342 .i64 XDH XAW w [⟨I 8,.agg #[],0⟩,⟨I 16,.agg #[],1⟩] 2 32 (.agg #[]) rfl;have h4:=kW (P:=prog) 344 3 342 .i64 XDH XAW w [⟨I 8,.agg #[],0⟩,⟨I 16,.agg #[],1⟩,⟨I 32,.agg #[],2⟩] 3 64 (.agg #[]) rfl;simp only [XAx,XA_,XAV] at h1 h2 h3 h4;go_enter func268,ntmps268;go_wp2;go_ret;exact⟨R,R⟩
theorem ab5(w:World):(zeroValue 342).run prog w=.ok (.agg #[]) w:=qh
theorem YV{w:World}{r:Nat}(n:Int)(hb:w.heap[r]? =some (.map Bl.toArray 4)):
  (Instr.lookup 344 (.map (some r)) (I n) true).run prog w=.ok (.tuple #[.agg #[],.bool (rC n)]) w:=by
 refine aad 344 3 342 .i64 XDH XAW ab5 hb n _ ?_;unfold rC Bl;simp only [Instr.findNow,Instr.sameNow,if_true];cases h1:n==8<;>cases h2:n==16<;>cases h3:n==32<;>cases h4:n==64<;>simp
theorem yK(w:World)(A M:Obj):((w.alloc A).alloc M).drew.heap[w.heap.size+1]? =some M:=by
 have h:=vP (w.alloc A) M;rw [XAT] at h;exact h
theorem VP(w:World)(A B M:Obj):(((w.alloc A).alloc B).alloc M).drew.heap[w.heap.size+2]? =some M:=by
 have h:=vP ((w.alloc A).alloc B) M;rw [XAT,XAT] at h;exact h
theorem VQ(w:World)(A M B:Obj):(((w.alloc A).alloc M).alloc B).drew.heap[w.heap.size+1]? =some M:=
 (XAX ((w.alloc A).alloc M) B _ (by rw [XAT,XAT];omega)).trans (yK w A M)
theorem check_any(s a f:Int)(w:World):Z 208 #[.agg #[I s,I a,I f]] w λe w'=>
  e=.returned (I (errOf s a f))/\Below w w w':=by
 go_enter func208,ntmps208;go_wp2;go_region_held3 (λw'=>w'.cell? (w.heap.size,0)=I s/\w'.cell? (w.heap.size,1)=I a/\w'.cell? (w.heap.size,2)=I f) (simp [go_sem,World.cell?_alloc_past])
  (first|(go_at_call 268;refine(Po _).mono ?_;rintro e w' ⟨rfl,rfl⟩)|(rw [YV a (by first|exact yK _ _ _|exact VP _ _ _ _|exact VQ _ _ _ _)]))
 all_goals go_wp2
 all_goals
  go_ret;refine⟨wQ ?_,by go_grown⟩;first
  |exact SY qm
  |exact SZ qd
  |exact S0 qm qd qd qd qd

theorem Pz:∀x:Fin 1088,bits .andNot .i64 (x.val:Int) 7=(x.val:Int) / 8*8:=qco
theorem Pw:∀x:Fin 1088,bits .andNot .i64 (x.val:Int) 15=(x.val:Int) / 16*16:=qco
theorem Px:∀x:Fin 1088,bits .andNot .i64 (x.val:Int) 31=(x.val:Int) / 32*32:=qco
theorem Py:∀x:Fin 1088,bits .andNot .i64 (x.val:Int) 63=(x.val:Int) / 64*64:=qco
theorem ZF:∀x y:Fin 8,(bits .or .i64 (x.val:Int) (y.val:Int) !=0)= !((x.val:Int)==0 && (y.val:Int)==0):=qco
theorem abE{s a f:Int}(h:okB s a f=true):bits .andNot .i64 (s+a-1) (a-1)=(s+a-1) / a*a:=by
 rw [wD] at h;obtain⟨ha,h1,h2,_⟩:=h;obtain⟨n,hn⟩:=XAb (show 0<=s+a-1 from qd);rw [hn];have hlt:n<1088:=qd
 rcases ha with rfl|rfl|rfl|rfl
 .exact Pz ⟨n,hlt⟩
 .exact Pw ⟨n,hlt⟩
 .exact Px ⟨n,hlt⟩
 .exact Py ⟨n,hlt⟩
theorem ZE{f g:Int}(hf:0<=f)(hf':f<=7)(hg:0<=g)(hg':g<=7):(bits .or .i64 f g !=0)= !(f==0 && g==0):=by
 obtain⟨n,rfl⟩:=XAb hf;obtain⟨m,rfl⟩:=XAb hg;exact ZF ⟨n,qd⟩ ⟨m,qd⟩
theorem RK{s a f:Int}(h:okB s a f=true)(w:World):Z 208 #[.agg #[I s,I a,I f]] w λe w'=>
  e=.returned (I 0)/\Below w w w':=by
 have:=check_any s a f w
 rwa [yy h] at this
theorem RI{s a f:Int}(h:okB s a f=false)(w:World):Z 208 #[.agg #[I s,I a,I f]] w λe w'=>
  e=.returned (I 2)/\Below w w w':=by
 have:=check_any s a f w
 rwa [Cd h] at this
theorem abG(s a f:Int)(w:World):Z 209 #[.agg #[I s,I a,I f]] w λe w'=>
  e=.returned (I (stepOf s a f))/\Below w w w':=by
 cases h:okB s a f
 .rw [aa3 h];go_enter func209,ntmps209;go_wp2_with (go_at_call 208;refine(RI h _).mono ?_;rintro e w1 ⟨rfl,hb1⟩);go_ret;exact⟨R,df hb1⟩
 .rw [aa4 h];have hok:=(wD _ _ _).1 h;go_enter func209,ntmps209;go_wp2_with (go_at_call 208;refine(RK h _).mono ?_;rintro e w1 ⟨rfl,hb1⟩;obtain⟨hc1,hf1⟩:=yg hb1);go_ret;exact⟨wQ (abE h),df hb1⟩
theorem aaH(s a f s' a' f':Int)(w:World):Z 165 #[.agg #[I s,I a,I f],.agg #[I s',I a',I f']] w λe w'=>
  e=.returned (.bool (mQ s a f s' a' f'))/\Below w w w':=by
 cases h:okB s a f
 .have hs:mQ s a f s' a' f'=false:=by simp [mQ,h]
  have e1:=Cd h;rw [hs];go_enter func165,ntmps165;go_wp2_with (first|(go_at_call 208;refine(check_any _ _ _ _).mono ?_;rintro e w1 ⟨rfl,hb1⟩;obtain⟨hz1,hc1,hf1⟩:=bQ hb1 (w.heap.size+2) qbk));go_ret;exact⟨R,qa⟩
 cases h':okB s' a' f'
 .have hs:mQ s a f s' a' f'=false:=by simp [mQ,h']
  have e1:=yy h;have e2:=Cd h';rw [hs];go_enter func165,ntmps165;go_wp2_with (first|(go_at_call 208;refine(check_any _ _ _ _).mono ?_;rintro e w1 ⟨rfl,hb1⟩;obtain⟨hz1,hc1,hf1⟩:=bQ hb1 (w.heap.size+2) qbk));go_ret;exact⟨R,qa⟩
 .obtain⟨hal,hs1,hs2,hf1,hf2⟩:=(wD _ _ _).1 h;obtain⟨hal',hs1',hs2',VZ,V5⟩:=(wD _ _ _).1 h';have e1:=yy h;have e2:=yy h';by_cases jJ:f=0/\f'=0
  .obtain⟨rfl,rfl⟩:=jJ;have ha1:8<=a:=by omega
   have adC:8<=a':=qd;have e3:(bits .or .i64 0 0 !=0)=false:=qf;clear hal hal';have hs:mQ s a 0 s' a' 0=(stepOf s a 0==stepOf s' a' 0 && a % a'==0):=by simp [mQ,h,h']
   rw [hs];clear hs;cases hst:(stepOf s a 0==stepOf s' a' 0);all_goals
    go_enter func165,ntmps165;go_wp2_with (first|(go_at_call 208;refine(check_any _ _ _ _).mono ?_;rintro e w1 ⟨rfl,hb1⟩;obtain⟨hz1,hc1,hf1⟩:=bQ hb1 (w.heap.size+2) qbk));(refine ba (w.heap.size+2) (λhxc aA hxh hxn=>?_);(repeat (go_big_quiet_step (first|(go_at_call 209;exact dy (abG _ _ _ _)))));refine XAG ?_;clear hxc aA hxh hxn;intro w1 hb1 hz1 hc1 hf1);go_wp2;go_ret;exact⟨ql,qa⟩
  .have hs:mQ s a f s' a' f'=false:=by
    simp only [mQ,h,h',XCt,Bool.and_eq_false_iff,XAf];omega
   rw [hs];have e3:=ZE hf1 hf2 VZ V5;have e4:(f==0 && f'==0)=false:=by simp only [Bool.and_eq_false_iff,XAf];omega
   rw [e4] at e3;clear jJ e4 hs;go_enter func165,ntmps165;go_wp2_with (first|(go_at_call 208;refine(check_any _ _ _ _).mono ?_;rintro e w1 ⟨rfl,hb1⟩;obtain⟨hz1,hc1,hf1⟩:=bQ hb1 (w.heap.size+2) qbk));go_ret;exact⟨R,qa⟩

structure Sp where
 s:Int
 a:Int
 f:Int
 deriving DecidableEq
def srv(x y:Sp):Bool:=mQ x.s x.a x.f y.s y.a y.f
def fM(one:Sp):List Sp->Nat->Nat × Bool
 | [],_=>(0,false)
 |x::r,k=>if srv x one=true then(k,true) else fM one r (k+1)
theorem Tz{one:Sp}{l:List Sp}{k:Nat}(h:l.length<=k):fM one (l.drop k) k=(0,false):=by
 rw [List.drop_eq_nil_of_le h];rfl
theorem Tx{one:Sp}{l:List Sp}{k:Nat}(h:k<l.length)(hs:srv l[k] one=true):fM one (l.drop k) k=(k,true):=by
 rw [XBt h];simp [fM,hs]
theorem Ty{one:Sp}{l:List Sp}{k:Nat}(h:k<l.length)(hs:srv l[k] one=false):fM one (l.drop k) k=fM one (l.drop (k+1)) (k+1):=by
 rw [XBt h];simp [fM,hs]
def mj(w:World)(b off:Nat)(l:List Sp):Prop:=∀(i:Nat)(h:i<l.length),w.cell? (b,off+i*3)=I l[i].s/\w.cell? (b,off+i*3+1)=I l[i].a/\w.cell? (b,off+i*3+2)=I l[i].f
theorem Hm(x y:Sp)(bo:Nat)(w:World)(hlt:bo<w.heap.size)(h0:w.cell? (bo,0)=I y.s)(h1:w.cell? (bo,1)=I y.a)(h2:w.cell? (bo,2)=I y.f):
  Z 164 #[.agg #[I x.s,I x.a,I x.f],.pointer (bo,0)] w λe w'=>e=.returned (.bool (srv x y))/\Below w w w':=by
 unfold srv;go_enter func164,ntmps164;go_wp2_with (first|(go_at_call 165;refine(aaH _ _ _ _ _ _ _).mono ?_;rintro e w1 ⟨rfl,hb1⟩;obtain⟨hz1,hc1,hf1⟩:=bQ hb1 (w.heap.size+1) qbk));go_ret;exact⟨R,qa⟩
theorem first_any(l:List Sp)(y:Sp)(b off c bo:Nat)(w:World)(hn:0<l.length)(hm:l.length<=9223372036854775807)(hb:b<w.heap.size)(hl:mj w b off l)
 (hlt:bo<w.heap.size)(h0:w.cell? (bo,0)=I y.s)(h1:w.cell? (bo,1)=I y.a)(h2:w.cell? (bo,2)=I y.f):
  Z 163 #[.slice (b,off) l.length c,.func (.func 164) #[] #[(bo,0)]] w λe w'=>
   e=.returned (.tuple #[I (fM y l 0).1,.bool (fM y l 0).2])/\Below w w w':=by
 have HL:=XAA hl;clear hl;go_enter func163,ntmps163;go_wp2;go_loopw [10] (λi wr=>∃k:Nat,k<=l.length/\i=I k/\Hid (fM y (l.drop k) k=fM y l 0)/\Below w w wr) (λi _=>l.length-(intOf i).toNat)
 case atStart=>exact⟨0,XAJ _,R,XAA R,XAC _ _⟩
 case round=>
  obtain⟨k,hk,rfl,HK,hw⟩:=hrel;have hsz:=hw.size;obtain⟨hcw,hfw⟩:=yg hw;by_cases hlt':k<l.length
  .obtain⟨c0,c1,c2⟩:=HL.out k hlt';cases hs:srv l[k] y
   .have HM:=XAA (Ty hlt' hs);go_wp2_with (first|(go_at_call 164;refine(Hm l[k] y bo _ ?_ ?_ ?_ ?_).mono ?_;go_size;(repeat' (first|(with_reducible assumption)|(with_reducible refine eT ?_)|(with_reducible refine tz _ ?_)|(with_reducible refine fs ?_)|(with_reducible refine cell_below qg ?_)));(repeat' (first|(with_reducible assumption)|(with_reducible refine eT ?_)|(with_reducible refine tz _ ?_)|(with_reducible refine fs ?_)|(with_reducible refine cell_below qg ?_)));(repeat' (first|(with_reducible assumption)|(with_reducible refine eT ?_)|(with_reducible refine tz _ ?_)|(with_reducible refine fs ?_)|(with_reducible refine cell_below qg ?_)));rintro e w1 ⟨rfl,hb1⟩;obtain⟨hz1,hc1,hf1⟩:=bQ hb1 (w.heap.size) qbk));go_roundw
    case rel=>exact⟨k+1,qd,qbf,XAA (HM.out.symm.trans HK.out),qa⟩
    case measure=>simp [intOf];omega
   .have HM:=XAA (Tx hlt' hs);go_wp2_with (first|(go_at_call 164;refine(Hm l[k] y bo _ ?_ ?_ ?_ ?_).mono ?_;go_size;(repeat' (first|(with_reducible assumption)|(with_reducible refine eT ?_)|(with_reducible refine tz _ ?_)|(with_reducible refine fs ?_)|(with_reducible refine cell_below qg ?_)));(repeat' (first|(with_reducible assumption)|(with_reducible refine eT ?_)|(with_reducible refine tz _ ?_)|(with_reducible refine fs ?_)|(with_reducible refine cell_below qg ?_)));(repeat' (first|(with_reducible assumption)|(with_reducible refine eT ?_)|(with_reducible refine tz _ ?_)|(with_reducible refine fs ?_)|(with_reducible refine cell_below qg ?_)));rintro e w1 ⟨rfl,hb1⟩;obtain⟨hz1,hc1,hf1⟩:=bQ hb1 (w.heap.size) qbk))
    go_ret2
    exact⟨by rw [<-HK.out,HM.out];rfl,qa⟩
  .have HM:=XAA (Tz (one:=y) (l:=l) (k:=k) qd);go_wp2
   go_ret2
   exact⟨by rw [<-HK.out,HM.out];rfl,qa⟩
theorem TC(y:Sp)(A:Option Addr)(c:Nat)(F:Value)(w:World):
  Z 163 #[.slice A 0 c,F] w λe w'=>
   e=.returned (.tuple #[I (fM y [] 0).1,.bool (fM y [] 0).2])/\Below w w w':=by
 go_enter func163,ntmps163;go_wp2
 go_rounds 1
 go_ret2
 exact⟨R,XAC _ _⟩
theorem mj.alloc{w:World}{b off:Nat}{l:List Sp}(h:mj w b off l)(o:Obj):mj (w.alloc o) b off l:=
 λi hi=>⟨eT (h i hi).1,eT (h i hi).2.1,eT (h i hi).2.2⟩
theorem mj.below{w w':World}{b off:Nat}{l:List Sp}(h:mj w b off l)(hb:Below w w w'):mj w' b off l:=
 λi hi=>⟨cell_below hb (h i hi).1,cell_below hb (h i hi).2.1,cell_below hb (h i hi).2.2⟩
theorem TA(l:List Sp)(y:Sp)(A:Option Addr)(c:Nat)(w:World)(hm:l.length<=9223372036854775807)(hA:0<l.length->∃b off,A=some ⟨b,off,none⟩/\b<w.heap.size/\mj w b off l):
  Z 119 #[.slice A l.length c,.agg #[I y.s,I y.a,I y.f]] w λe w'=>
   e=.returned (.tuple #[I (fM y l 0).1,.bool (fM y l 0).2])/\Below w w w':=by
 rcases XAr l.length with h0|hp
 .obtain rfl:=XBN h0;clear hA;simp only [XBE] at*;go_enter func119,ntmps119;go_wp2_with (first|(go_at_call 163;refine(TC y _ _ _ _).mono ?_;rintro e w1 ⟨rfl,hb1⟩;obtain⟨hz1,hc1,hf1⟩:=bQ hb1 (w.heap.size+1) qbk))
  go_ret2
  exact⟨R,qa⟩
 .obtain⟨b,off,rfl,hb,hl⟩:=hA hp;have HL:=XAA hl;clear hl hA;go_enter func119,ntmps119;go_wp2_with (first|(go_at_call 163;refine(first_any l y _ _ _ _ _ hp hm ?_ ?_ ?_ ?_ ?_ ?_).mono ?_;go_size;(exact mj.alloc HL.out _);go_size;simp [go_sem];simp [go_sem];simp [go_sem];rintro e w1 ⟨rfl,hb1⟩;obtain⟨hz1,hc1,hf1⟩:=bQ hb1 (w.heap.size+1) qbk))
  go_ret2
  exact⟨R,qa⟩
theorem iA(s a st off:Int)(k:Nat)(ob wa:Int)(hk:k<=3)(h1:1<=st)(h2:st<=100000)(hob:(aX ⟨s,a,st,off,0,0,0⟩ k).aq=ob)(fu:(aX ⟨s,a,st,off,0,0,0⟩ k).was=wa)(w:World):
  Z 211 #[.agg #[I s,I a,I st,I off,I 0,I 0,I 0],I k] w λe w'=>
   e=.returned (.agg #[I s,I a,I st,I off,I k,I ob,I wa])/\Below w w w':=by
 refine(abx ⟨s,a,st,off,0,0,0⟩ k hk h1 h2 w).mono ?_;rintro e w' ⟨rfl,hb⟩;refine⟨?_,hb⟩;rw [<-hob,<-fu];rfl
theorem LW(n m v:Int)(hv:fT n m=v)(hn:0<=n)(hn':n<=100000)(hm:1<=m)(hm':m<=100000)(w:World):Z 210 #[I n,I m] w λe w'=>
  e=.returned (I v)/\w'=w:=hv ▸ Ea n m hn hn' hm hm' w
theorem Ag{l:Lay}(h:1<=l.st)(k:Nat):0<=(aX l k).was/\(aX l k).was<=dr k:=by
 have h1:=aco l k;have h2:=KC h k;have h3:0<=(aX l k).aq*(aX l k).st:=XCa h2 (show 0<=l.st from qd);have h4:=XDG (dr k) (show l.st≠0 from qd);have h5:(aX l k).aq*l.st<=dr k / l.st*l.st:=Int.mul_le_mul_of_nonneg_right (show min (dr k / l.st) 16<=_ from qd) qd;have h6:(aX l k).st=l.st:=rfl;rw [h6] at h1 h3;omega
theorem yn{k:Nat}(h:k<4):dr k<=2048:=by
 obtain rfl|rfl|rfl|rfl:k=0\/k=1\/k=2\/k=3:=qd
 all_goals decide
theorem zN{l:Lay}{k:Nat}{first:Option Lay}{ob:Int}(h:k<4)(ho:(aX l k).aq=ob)(h0:ob=0):scan l (4-k) k first=scan l (4-(k+1)) (k+1) first:=by
 rw [show 4-k=(4-(k+1))+1 from qd];rw [scan.eq_def];simp only [];rw [XAE (by rw [ho,h0])]
theorem zL{l:Lay}{k:Nat}{first:Option Lay}{ob wa:Int}(h:k<4)(ho:(aX l k).aq=ob)(h0:ob≠0)(hw:(aX l k).was=wa)(hg:wa*8<=dr k):scan l (4-k) k first=(aX l k,0):=by
 rw [show 4-k=(4-(k+1))+1 from qd];rw [scan.eq_def];simp only [];rw [XAD (by rw [ho];exact h0),XAE (by rw [hw];exact hg)]
theorem zM{l:Lay}{k:Nat}{x:Lay}{ob wa:Int}(h:k<4)(ho:(aX l k).aq=ob)(h0:ob≠0)(hw:(aX l k).was=wa)(hg:¬wa*8<=dr k):scan l (4-k) k (some x)=scan l (4-(k+1)) (k+1) (some x):=by
 rw [show 4-k=(4-(k+1))+1 from qd];rw [scan.eq_def];simp only [];rw [XAD (by rw [ho];exact h0),XAD (by rw [hw];exact hg)]
theorem zK{l:Lay}{k:Nat}{ob wa:Int}(h:k<4)(ho:(aX l k).aq=ob)(h0:ob≠0)(hw:(aX l k).was=wa)(hg:¬wa*8<=dr k):scan l (4-k) k none=scan l (4-(k+1)) (k+1) (some (aX l k)):=by
 rw [show 4-k=(4-(k+1))+1 from qd];rw [scan.eq_def];simp only [];rw [XAD (by rw [ho];exact h0),XAD (by rw [hw];exact hg)]
theorem Al{k:Nat}(h:k<4):wrap64 (256*2 ^ k)=dr k:=by
 obtain rfl|rfl|rfl|rfl:k=0\/k=1\/k=2\/k=3:=qd
 all_goals decide+kernel
theorem ze{s a st off:Int}{k:Nat}{ob wa:Int}(hob:(aX ⟨s,a,st,off,0,0,0⟩ k).aq=ob)(fu:(aX ⟨s,a,st,off,0,0,0⟩ k).was=wa):
  ey (aX ⟨s,a,st,off,0,0,0⟩ k)=.agg #[I s,I a,I st,I off,I k,I ob,I wa]:=by
 rw [<-hob,<-fu];rfl
theorem za{w:World}{b:Nat}{x:Lay}{cs:Array Value}(h:ey x=.agg cs)(hb:ak w b 190 cs):ak w b 190 (jL ((some x).getD uf)):=by
 have h1:Value.agg (jL x)=.agg cs:=h;injection h1 with h2;rw [XB9,h2];exact hb
def xS(B:Nat)(w:World)(s a st off:Int)(ah:Lay × Int)(j found:Value)(wr:World):Prop:=
 ∃(k:Nat)(first:Option Lay),k<=4/\j=I k/\found=.bool first.isSome/\Hid (scan ⟨s,a,st,off,0,0,0⟩ (4-k) k first=ah)/\
  ak wr B 190 (jL uf)/\ak wr (B+1) 190 (jL ⟨s,a,st,off,0,0,0⟩)/\ak wr (B+1+1) 190 (jL (first.getD uf))/\B+3<=wr.heap.size/\Below B w wr
theorem Zu(s a st:Int)(h1:1<=s)(h2:s<=2048)(h3:1<=a)(h4:a<=64)(h8:8<a)(hb:(bits .and .i64 a (a-1) !=0)=false)(HS:Hid (fT (s) a=st))(bT:1<=st/\st<=100000)(ah:Lay × Int)(HR:Hid (scan ⟨s,a,st,0,0,0,0⟩ 4 0 none=ah))(w:World):Z 166 #[I s,I a,.bool false] w λe w'=>
  e=.returned (.tuple #[ey ah.1,I ah.2])/\Below w w w':=by
 go_enter func166,ntmps166;go_wp2_with (first|(go_at_call 210;refine(LW (s) a st HS.out qd qd qd qd _).mono ?_;rintro e w1 ⟨rfl,rfl⟩));go_loopw [54,10] (λj fd wr=>xS w.heap.size w s a st 0 ah j fd wr) (λj _ _=>4-(intOf j).toNat)
 case atStart=>exact⟨0,none,qd,R,R,HR,(((ak.new w _ _).alloc _).alloc _),(ak.new2 w _ 190 _).alloc _,ak.g_ w _ _ 190 _,qbk,qa⟩
 case round=>
  obtain⟨k,first,hk,rfl,rfl,HK,k0,k1,k2,hz,hw⟩:=hrel;have c1:=k1.cell;unfold jL at c1;by_cases hlt:k<4
  .obtain⟨ob,hob⟩:=Xq ((aX ⟨s,a,st,0,0,0,0⟩ k).aq);obtain⟨wa,fu⟩:=Xq ((aX ⟨s,a,st,0,0,0,0⟩ k).was);have HO:=XAA hob;have HW:=XAA fu;clear hob fu;have hbd:=Ag (l:=⟨s,a,st,0,0,0,0⟩) bT.1 k;rw [HW.out] at hbd;have CY:=yn hlt;by_cases ho:ob=0
   .have HN:=XAA (zN (first:=first) hlt HO.out ho);go_wp2_with (first|(go_at_call 211;refine(iA s a st 0 k ob wa qd bT.1 bT.2 HO.out HW.out _).mono ?_;rintro e w2 ⟨rfl,hb2⟩;obtain⟨hz2,hc2,hf2⟩:=bQ hb2 (w.heap.size+3) qbk));go_roundw
    case rel=>exact⟨k+1,first,qd,qbf,R,XAA (HN.out.symm.trans HK.out),(k0.below hb2).alloc _,(k1.below hb2).alloc _,(k2.below hb2).alloc _,qbk,qa⟩
    case measure=>simp [intOf];omega
   .have hwp:=Al hlt;have pb:=XAA (ze (s:=s) (a:=a) (st:=st) (off:=0) HO.out HW.out);by_cases hg:wa*8<=dr k
    .have HN:=XAA (zL (first:=first) hlt HO.out ho HW.out hg);rw [<-hwp] at hg;clear hwp;go_wp2_with (first|(go_at_call 211;refine(iA s a st 0 k ob wa qd bT.1 bT.2 HO.out HW.out _).mono ?_;rintro e w2 ⟨rfl,hb2⟩;obtain⟨hz2,hc2,hf2⟩:=bQ hb2 (w.heap.size+3) qbk));(refine ba (w2.heap.size+1) (λhxc aA hxh hxn=>?_);(repeat (go_big_quiet_step (fail)));refine XAG ?_;clear hxc aA hxh hxn;intro w1 hb1 hz1 hc1 hf1);have q0:=((k0.below hb2).alloc _).below hb1;go_wp2_with (first|(refine aU R 190 _ _ R _ R R (q0) R qh qk ?_;intro w8 aC kb8;have kc8:=kb8.cell));exact XAI (v:=.tuple #[.agg #[I s,I a,I st,I 0,I k,I ob,I wa],I 0]) qbb R ⟨qfp,aI qa aC (XAB _)⟩
    .cases first
     .have HN:=XAA (zK hlt HO.out ho HW.out hg);rw [<-hwp] at hg;clear hwp;go_wp2_with (first|(go_at_call 211;refine(iA s a st 0 k ob wa qd bT.1 bT.2 HO.out HW.out _).mono ?_;rintro e w2 ⟨rfl,hb2⟩;obtain⟨hz2,hc2,hf2⟩:=bQ hb2 (w.heap.size+3) qbk));(refine ba (w2.heap.size+1) (λhxc aA hxh hxn=>?_);(repeat (go_big_quiet_step (fail)));refine XAG ?_;clear hxc aA hxh hxn;intro w1 hb1 hz1 hc1 hf1);have q0:=((k0.below hb2).alloc _).below hb1;have q1:=((k1.below hb2).alloc _).below hb1;have q2:=((k2.below hb2).alloc _).below hb1;go_wp2_with (first|(refine aU R 190 _ _ R _ R R (q2) R qh qk ?_;intro w8 aC kb8;have kc8:=kb8.cell));go_roundw
      case rel=>exact⟨k+1,some (aX ⟨s,a,st,0,0,0,0⟩ k),qd,qbf,R,XAA (HN.out.symm.trans HK.out),q0.only aC qd,q1.only aC qd,za pb.out kb8,qjc,aI qa aC qd⟩
      case measure=>simp [intOf];omega
     .rename_i x;have HN:=XAA (zM (x:=x) hlt HO.out ho HW.out hg);rw [<-hwp] at hg;clear hwp;go_wp2_with (first|(go_at_call 211;refine(iA s a st 0 k ob wa qd bT.1 bT.2 HO.out HW.out _).mono ?_;rintro e w2 ⟨rfl,hb2⟩;obtain⟨hz2,hc2,hf2⟩:=bQ hb2 (w.heap.size+3) qbk));(refine ba (w2.heap.size+1) (λhxc aA hxh hxn=>?_);(repeat (go_big_quiet_step (fail)));refine XAG ?_;clear hxc aA hxh hxn;intro w1 hb1 hz1 hc1 hf1);have q0:=((k0.below hb2).alloc _).below hb1;have q1:=((k1.below hb2).alloc _).below hb1;have q2:=((k2.below hb2).alloc _).below hb1;go_wp2;go_roundw
      case rel=>exact⟨k+1,_,qd,qbf,R,XAA (HN.out.symm.trans HK.out),q0,q1,q2,qd,qa⟩
      case measure=>simp [intOf];omega
  .have hk4:k=4:=by omega
   subst hk4;cases first
   .go_wp2_with (first|(refine aU R 190 _ _ R _ R R (k0) R qh qk ?_;intro w8 aC kb8;have kc8:=kb8.cell));exact XAI (v:=.tuple #[.agg #[I 0,I 0,I 0,I 0,I 0,I 0,I 0],I 150]) qbb R ⟨qen,aI hw aC (XAB _)⟩
   .rename_i x;have c2:=k2.cell;simp only [XB9,jL] at c2;go_wp2_with (first|(refine aU R 190 _ _ R _ R R (k0) R qh qk ?_;intro w8 aC kb8;have kc8:=kb8.cell));exact XAI (v:=.tuple #[.agg #[I x.sz,I x.al,I x.st,I x.off,I x.ord,I x.aq,I x.was],I 0]) qbb R ⟨qen,aI hw aC (XAB _)⟩
theorem Zv(s a st:Int)(h1:1<=s)(h2:s<=2048)(h3:1<=a)(h4:a<=64)(h8:a<=8)(hb:(bits .and .i64 a (a-1) !=0)=false)(HS:Hid (fT (s) 8=st))(bT:1<=st/\st<=100000)(ah:Lay × Int)(HR:Hid (scan ⟨s,a,st,0,0,0,0⟩ 4 0 none=ah))(w:World):Z 166 #[I s,I a,.bool false] w λe w'=>
  e=.returned (.tuple #[ey ah.1,I ah.2])/\Below w w w':=by
 go_enter func166,ntmps166;go_wp2_with (first|(go_at_call 210;refine(LW (s) 8 st HS.out qd qd qd qd _).mono ?_;rintro e w1 ⟨rfl,rfl⟩));go_loopw [54,10] (λj fd wr=>xS w.heap.size w s a st 0 ah j fd wr) (λj _ _=>4-(intOf j).toNat)
 case atStart=>exact⟨0,none,qd,R,R,HR,(((ak.new w _ _).alloc _).alloc _),(ak.new2 w _ 190 _).alloc _,ak.g_ w _ _ 190 _,qbk,qa⟩
 case round=>
  obtain⟨k,first,hk,rfl,rfl,HK,k0,k1,k2,hz,hw⟩:=hrel;have c1:=k1.cell;unfold jL at c1;by_cases hlt:k<4
  .obtain⟨ob,hob⟩:=Xq ((aX ⟨s,a,st,0,0,0,0⟩ k).aq);obtain⟨wa,fu⟩:=Xq ((aX ⟨s,a,st,0,0,0,0⟩ k).was);have HO:=XAA hob;have HW:=XAA fu;clear hob fu;have hbd:=Ag (l:=⟨s,a,st,0,0,0,0⟩) bT.1 k;rw [HW.out] at hbd;have CY:=yn hlt;by_cases ho:ob=0
   .have HN:=XAA (zN (first:=first) hlt HO.out ho);go_wp2_with (first|(go_at_call 211;refine(iA s a st 0 k ob wa qd bT.1 bT.2 HO.out HW.out _).mono ?_;rintro e w2 ⟨rfl,hb2⟩;obtain⟨hz2,hc2,hf2⟩:=bQ hb2 (w.heap.size+3) qbk));go_roundw
    case rel=>exact⟨k+1,first,qd,qbf,R,XAA (HN.out.symm.trans HK.out),(k0.below hb2).alloc _,(k1.below hb2).alloc _,(k2.below hb2).alloc _,qbk,qa⟩
    case measure=>simp [intOf];omega
   .have hwp:=Al hlt;have pb:=XAA (ze (s:=s) (a:=a) (st:=st) (off:=0) HO.out HW.out);by_cases hg:wa*8<=dr k
    .have HN:=XAA (zL (first:=first) hlt HO.out ho HW.out hg);rw [<-hwp] at hg;clear hwp;go_wp2_with (first|(go_at_call 211;refine(iA s a st 0 k ob wa qd bT.1 bT.2 HO.out HW.out _).mono ?_;rintro e w2 ⟨rfl,hb2⟩;obtain⟨hz2,hc2,hf2⟩:=bQ hb2 (w.heap.size+3) qbk));(refine ba (w2.heap.size+1) (λhxc aA hxh hxn=>?_);(repeat (go_big_quiet_step (fail)));refine XAG ?_;clear hxc aA hxh hxn;intro w1 hb1 hz1 hc1 hf1);have q0:=((k0.below hb2).alloc _).below hb1;go_wp2_with (first|(refine aU R 190 _ _ R _ R R (q0) R qh qk ?_;intro w8 aC kb8;have kc8:=kb8.cell));exact XAI (v:=.tuple #[.agg #[I s,I a,I st,I 0,I k,I ob,I wa],I 0]) qbb R ⟨qfp,aI qa aC (XAB _)⟩
    .cases first
     .have HN:=XAA (zK hlt HO.out ho HW.out hg);rw [<-hwp] at hg;clear hwp;go_wp2_with (first|(go_at_call 211;refine(iA s a st 0 k ob wa qd bT.1 bT.2 HO.out HW.out _).mono ?_;rintro e w2 ⟨rfl,hb2⟩;obtain⟨hz2,hc2,hf2⟩:=bQ hb2 (w.heap.size+3) qbk));(refine ba (w2.heap.size+1) (λhxc aA hxh hxn=>?_);(repeat (go_big_quiet_step (fail)));refine XAG ?_;clear hxc aA hxh hxn;intro w1 hb1 hz1 hc1 hf1);have q0:=((k0.below hb2).alloc _).below hb1;have q1:=((k1.below hb2).alloc _).below hb1;have q2:=((k2.below hb2).alloc _).below hb1;go_wp2_with (first|(refine aU R 190 _ _ R _ R R (q2) R qh qk ?_;intro w8 aC kb8;have kc8:=kb8.cell));go_roundw
      case rel=>exact⟨k+1,some (aX ⟨s,a,st,0,0,0,0⟩ k),qd,qbf,R,XAA (HN.out.symm.trans HK.out),q0.only aC qd,q1.only aC qd,za pb.out kb8,qjc,aI qa aC qd⟩
      case measure=>simp [intOf];omega
     .rename_i x;have HN:=XAA (zM (x:=x) hlt HO.out ho HW.out hg);rw [<-hwp] at hg;clear hwp;go_wp2_with (first|(go_at_call 211;refine(iA s a st 0 k ob wa qd bT.1 bT.2 HO.out HW.out _).mono ?_;rintro e w2 ⟨rfl,hb2⟩;obtain⟨hz2,hc2,hf2⟩:=bQ hb2 (w.heap.size+3) qbk));(refine ba (w2.heap.size+1) (λhxc aA hxh hxn=>?_);(repeat (go_big_quiet_step (fail)));refine XAG ?_;clear hxc aA hxh hxn;intro w1 hb1 hz1 hc1 hf1);have q0:=((k0.below hb2).alloc _).below hb1;have q1:=((k1.below hb2).alloc _).below hb1;have q2:=((k2.below hb2).alloc _).below hb1;go_wp2;go_roundw
      case rel=>exact⟨k+1,_,qd,qbf,R,XAA (HN.out.symm.trans HK.out),q0,q1,q2,qd,qa⟩
      case measure=>simp [intOf];omega
  .have hk4:k=4:=by omega
   subst hk4;cases first
   .go_wp2_with (first|(refine aU R 190 _ _ R _ R R (k0) R qh qk ?_;intro w8 aC kb8;have kc8:=kb8.cell));exact XAI (v:=.tuple #[.agg #[I 0,I 0,I 0,I 0,I 0,I 0,I 0],I 150]) qbb R ⟨qen,aI hw aC (XAB _)⟩
   .rename_i x;have c2:=k2.cell;simp only [XB9,jL] at c2;go_wp2_with (first|(refine aU R 190 _ _ R _ R R (k0) R qh qk ?_;intro w8 aC kb8;have kc8:=kb8.cell));exact XAI (v:=.tuple #[.agg #[I x.sz,I x.al,I x.st,I x.off,I x.ord,I x.aq,I x.was],I 0]) qbb R ⟨qen,aI hw aC (XAB _)⟩
theorem Zw(s a st off:Int)(h1:1<=s)(h2:s<=2048)(h3:1<=a)(h4:a<=64)(h8:8<a)(hb:(bits .and .i64 a (a-1) !=0)=false)(uT:Hid (fT 8 a=off))(aC:8<=off/\off<=8+a-1)(HS:Hid (fT (s+(off+8)) a=st))(bT:1<=st/\st<=100000)(ah:Lay × Int)(HR:Hid (scan ⟨s,a,st,off,0,0,0⟩ 4 0 none=ah))(w:World):Z 166 #[I s,I a,.bool true] w λe w'=>
  e=.returned (.tuple #[ey ah.1,I ah.2])/\Below w w w':=by
 have eO:=uT.out;have eS:=HS.out;go_enter func166,ntmps166;go_wp2_with (first|(go_at_call 210;refine(Ea _ _ ?_ ?_ ?_ ?_ _).mono ?_;omega;omega;omega;omega;rintro e w1 ⟨rfl,rfl⟩));clear eO eS uT HS aC;go_loopw [54,10] (λj fd wr=>xS w.heap.size w s a st off ah j fd wr) (λj _ _=>4-(intOf j).toNat)
 case atStart=>exact⟨0,none,qd,R,R,HR,(((ak.new w _ _).alloc _).alloc _),(ak.new2 w _ 190 _).alloc _,ak.g_ w _ _ 190 _,qbk,qa⟩
 case round=>
  obtain⟨k,first,hk,rfl,rfl,HK,k0,k1,k2,hz,hw⟩:=hrel;have c1:=k1.cell;unfold jL at c1;by_cases hlt:k<4
  .obtain⟨ob,hob⟩:=Xq ((aX ⟨s,a,st,off,0,0,0⟩ k).aq);obtain⟨wa,fu⟩:=Xq ((aX ⟨s,a,st,off,0,0,0⟩ k).was);have HO:=XAA hob;have HW:=XAA fu;clear hob fu;have hbd:=Ag (l:=⟨s,a,st,off,0,0,0⟩) bT.1 k;rw [HW.out] at hbd;have CY:=yn hlt;by_cases ho:ob=0
   .have HN:=XAA (zN (first:=first) hlt HO.out ho);go_wp2_with (first|(go_at_call 211;refine(iA s a st off k ob wa qd bT.1 bT.2 HO.out HW.out _).mono ?_;rintro e w2 ⟨rfl,hb2⟩;obtain⟨hz2,hc2,hf2⟩:=bQ hb2 (w.heap.size+3) qbk));go_roundw
    case rel=>exact⟨k+1,first,qd,qbf,R,XAA (HN.out.symm.trans HK.out),(k0.below hb2).alloc _,(k1.below hb2).alloc _,(k2.below hb2).alloc _,qbk,qa⟩
    case measure=>simp [intOf];omega
   .have hwp:=Al hlt;have pb:=XAA (ze (s:=s) (a:=a) (st:=st) (off:=off) HO.out HW.out);by_cases hg:wa*8<=dr k
    .have HN:=XAA (zL (first:=first) hlt HO.out ho HW.out hg);rw [<-hwp] at hg;clear hwp;go_wp2_with (first|(go_at_call 211;refine(iA s a st off k ob wa qd bT.1 bT.2 HO.out HW.out _).mono ?_;rintro e w2 ⟨rfl,hb2⟩;obtain⟨hz2,hc2,hf2⟩:=bQ hb2 (w.heap.size+3) qbk));(refine ba (w2.heap.size+1) (λhxc aA hxh hxn=>?_);(repeat (go_big_quiet_step (fail)));refine XAG ?_;clear hxc aA hxh hxn;intro w1 hb1 hz1 hc1 hf1);have q0:=((k0.below hb2).alloc _).below hb1;go_wp2_with (first|(refine aU R 190 _ _ R _ R R (q0) R qh qk ?_;intro w8 aC kb8;have kc8:=kb8.cell));exact XAI (v:=.tuple #[.agg #[I s,I a,I st,I off,I k,I ob,I wa],I 0]) qbb R ⟨qfp,aI qa aC (XAB _)⟩
    .cases first
     .have HN:=XAA (zK hlt HO.out ho HW.out hg);rw [<-hwp] at hg;clear hwp;go_wp2_with (first|(go_at_call 211;refine(iA s a st off k ob wa qd bT.1 bT.2 HO.out HW.out _).mono ?_;rintro e w2 ⟨rfl,hb2⟩;obtain⟨hz2,hc2,hf2⟩:=bQ hb2 (w.heap.size+3) qbk));(refine ba (w2.heap.size+1) (λhxc aA hxh hxn=>?_);(repeat (go_big_quiet_step (fail)));refine XAG ?_;clear hxc aA hxh hxn;intro w1 hb1 hz1 hc1 hf1);have q0:=((k0.below hb2).alloc _).below hb1;have q1:=((k1.below hb2).alloc _).below hb1;have q2:=((k2.below hb2).alloc _).below hb1;go_wp2_with (first|(refine aU R 190 _ _ R _ R R (q2) R qh qk ?_;intro w8 aC kb8;have kc8:=kb8.cell));go_roundw
      case rel=>exact⟨k+1,some (aX ⟨s,a,st,off,0,0,0⟩ k),qd,qbf,R,XAA (HN.out.symm.trans HK.out),q0.only aC qd,q1.only aC qd,za pb.out kb8,qjc,aI qa aC qd⟩
      case measure=>simp [intOf];omega
     .rename_i x;have HN:=XAA (zM (x:=x) hlt HO.out ho HW.out hg);rw [<-hwp] at hg;clear hwp;go_wp2_with (first|(go_at_call 211;refine(iA s a st off k ob wa qd bT.1 bT.2 HO.out HW.out _).mono ?_;rintro e w2 ⟨rfl,hb2⟩;obtain⟨hz2,hc2,hf2⟩:=bQ hb2 (w.heap.size+3) qbk));(refine ba (w2.heap.size+1) (λhxc aA hxh hxn=>?_);(repeat (go_big_quiet_step (fail)));refine XAG ?_;clear hxc aA hxh hxn;intro w1 hb1 hz1 hc1 hf1);have q0:=((k0.below hb2).alloc _).below hb1;have q1:=((k1.below hb2).alloc _).below hb1;have q2:=((k2.below hb2).alloc _).below hb1;go_wp2;go_roundw
      case rel=>exact⟨k+1,_,qd,qbf,R,XAA (HN.out.symm.trans HK.out),q0,q1,q2,qd,qa⟩
      case measure=>simp [intOf];omega
  .have hk4:k=4:=by omega
   subst hk4;cases first
   .go_wp2_with (first|(refine aU R 190 _ _ R _ R R (k0) R qh qk ?_;intro w8 aC kb8;have kc8:=kb8.cell));exact XAI (v:=.tuple #[.agg #[I 0,I 0,I 0,I 0,I 0,I 0,I 0],I 150]) qbb R ⟨qen,aI hw aC (XAB _)⟩
   .rename_i x;have c2:=k2.cell;simp only [XB9,jL] at c2;go_wp2_with (first|(refine aU R 190 _ _ R _ R R (k0) R qh qk ?_;intro w8 aC kb8;have kc8:=kb8.cell));exact XAI (v:=.tuple #[.agg #[I x.sz,I x.al,I x.st,I x.off,I x.ord,I x.aq,I x.was],I 0]) qbb R ⟨qen,aI hw aC (XAB _)⟩
theorem Zx(s a st off:Int)(h1:1<=s)(h2:s<=2048)(h3:1<=a)(h4:a<=64)(h8:a<=8)(hb:(bits .and .i64 a (a-1) !=0)=false)(uT:Hid (fT 8 a=off))(aC:8<=off/\off<=8+a-1)(HS:Hid (fT (s+(off+8)) 8=st))(bT:1<=st/\st<=100000)(ah:Lay × Int)(HR:Hid (scan ⟨s,a,st,off,0,0,0⟩ 4 0 none=ah))(w:World):Z 166 #[I s,I a,.bool true] w λe w'=>
  e=.returned (.tuple #[ey ah.1,I ah.2])/\Below w w w':=by
 have eO:=uT.out;have eS:=HS.out;go_enter func166,ntmps166;go_wp2_with (first|(go_at_call 210;refine(Ea _ _ ?_ ?_ ?_ ?_ _).mono ?_;omega;omega;omega;omega;rintro e w1 ⟨rfl,rfl⟩));clear eO eS uT HS aC;go_loopw [54,10] (λj fd wr=>xS w.heap.size w s a st off ah j fd wr) (λj _ _=>4-(intOf j).toNat)
 case atStart=>exact⟨0,none,qd,R,R,HR,(((ak.new w _ _).alloc _).alloc _),(ak.new2 w _ 190 _).alloc _,ak.g_ w _ _ 190 _,qbk,qa⟩
 case round=>
  obtain⟨k,first,hk,rfl,rfl,HK,k0,k1,k2,hz,hw⟩:=hrel;have c1:=k1.cell;unfold jL at c1;by_cases hlt:k<4
  .obtain⟨ob,hob⟩:=Xq ((aX ⟨s,a,st,off,0,0,0⟩ k).aq);obtain⟨wa,fu⟩:=Xq ((aX ⟨s,a,st,off,0,0,0⟩ k).was);have HO:=XAA hob;have HW:=XAA fu;clear hob fu;have hbd:=Ag (l:=⟨s,a,st,off,0,0,0⟩) bT.1 k;rw [HW.out] at hbd;have CY:=yn hlt;by_cases ho:ob=0
   .have HN:=XAA (zN (first:=first) hlt HO.out ho);go_wp2_with (first|(go_at_call 211;refine(iA s a st off k ob wa qd bT.1 bT.2 HO.out HW.out _).mono ?_;rintro e w2 ⟨rfl,hb2⟩;obtain⟨hz2,hc2,hf2⟩:=bQ hb2 (w.heap.size+3) qbk));go_roundw
    case rel=>exact⟨k+1,first,qd,qbf,R,XAA (HN.out.symm.trans HK.out),(k0.below hb2).alloc _,(k1.below hb2).alloc _,(k2.below hb2).alloc _,qbk,qa⟩
    case measure=>simp [intOf];omega
   .have hwp:=Al hlt;have pb:=XAA (ze (s:=s) (a:=a) (st:=st) (off:=off) HO.out HW.out);by_cases hg:wa*8<=dr k
    .have HN:=XAA (zL (first:=first) hlt HO.out ho HW.out hg);rw [<-hwp] at hg;clear hwp;go_wp2_with (first|(go_at_call 211;refine(iA s a st off k ob wa qd bT.1 bT.2 HO.out HW.out _).mono ?_;rintro e w2 ⟨rfl,hb2⟩;obtain⟨hz2,hc2,hf2⟩:=bQ hb2 (w.heap.size+3) qbk));(refine ba (w2.heap.size+1) (λhxc aA hxh hxn=>?_);(repeat (go_big_quiet_step (fail)));refine XAG ?_;clear hxc aA hxh hxn;intro w1 hb1 hz1 hc1 hf1);have q0:=((k0.below hb2).alloc _).below hb1;go_wp2_with (first|(refine aU R 190 _ _ R _ R R (q0) R qh qk ?_;intro w8 aC kb8;have kc8:=kb8.cell));exact XAI (v:=.tuple #[.agg #[I s,I a,I st,I off,I k,I ob,I wa],I 0]) qbb R ⟨qfp,aI qa aC (XAB _)⟩
    .cases first
     .have HN:=XAA (zK hlt HO.out ho HW.out hg);rw [<-hwp] at hg;clear hwp;go_wp2_with (first|(go_at_call 211;refine(iA s a st off k ob wa qd bT.1 bT.2 HO.out HW.out _).mono ?_;rintro e w2 ⟨rfl,hb2⟩;obtain⟨hz2,hc2,hf2⟩:=bQ hb2 (w.heap.size+3) qbk));(refine ba (w2.heap.size+1) (λhxc aA hxh hxn=>?_);(repeat (go_big_quiet_step (fail)));refine XAG ?_;clear hxc aA hxh hxn;intro w1 hb1 hz1 hc1 hf1);have q0:=((k0.below hb2).alloc _).below hb1;have q1:=((k1.below hb2).alloc _).below hb1;have q2:=((k2.below hb2).alloc _).below hb1;go_wp2_with (first|(refine aU R 190 _ _ R _ R R (q2) R qh qk ?_;intro w8 aC kb8;have kc8:=kb8.cell));go_roundw
      case rel=>exact⟨k+1,some (aX ⟨s,a,st,off,0,0,0⟩ k),qd,qbf,R,XAA (HN.out.symm.trans HK.out),q0.only aC qd,q1.only aC qd,za pb.out kb8,qjc,aI qa aC qd⟩
      case measure=>simp [intOf];omega
     .rename_i x;have HN:=XAA (zM (x:=x) hlt HO.out ho HW.out hg);rw [<-hwp] at hg;clear hwp;go_wp2_with (first|(go_at_call 211;refine(iA s a st off k ob wa qd bT.1 bT.2 HO.out HW.out _).mono ?_;rintro e w2 ⟨rfl,hb2⟩;obtain⟨hz2,hc2,hf2⟩:=bQ hb2 (w.heap.size+3) qbk));(refine ba (w2.heap.size+1) (λhxc aA hxh hxn=>?_);(repeat (go_big_quiet_step (fail)));refine XAG ?_;clear hxc aA hxh hxn;intro w1 hb1 hz1 hc1 hf1);have q0:=((k0.below hb2).alloc _).below hb1;have q1:=((k1.below hb2).alloc _).below hb1;have q2:=((k2.below hb2).alloc _).below hb1;go_wp2;go_roundw
      case rel=>exact⟨k+1,_,qd,qbf,R,XAA (HN.out.symm.trans HK.out),q0,q1,q2,qd,qa⟩
      case measure=>simp [intOf];omega
  .have hk4:k=4:=by omega
   subst hk4;cases first
   .go_wp2_with (first|(refine aU R 190 _ _ R _ R R (k0) R qh qk ?_;intro w8 aC kb8;have kc8:=kb8.cell));exact XAI (v:=.tuple #[.agg #[I 0,I 0,I 0,I 0,I 0,I 0,I 0],I 150]) qbb R ⟨qen,aI hw aC (XAB _)⟩
   .rename_i x;have c2:=k2.cell;simp only [XB9,jL] at c2;go_wp2_with (first|(refine aU R 190 _ _ R _ R R (k0) R qh qk ?_;intro w8 aC kb8;have kc8:=kb8.cell));exact XAI (v:=.tuple #[.agg #[I x.sz,I x.al,I x.st,I x.off,I x.ord,I x.aq,I x.was],I 0]) qbb R ⟨qen,aI hw aC (XAB _)⟩
theorem Zt(s a st off:Int)(g:Bool)(h1:1<=s)(h2:s<=2048)(h3:1<=a)(h4:a<=64)(hb:(bits .and .i64 a (a-1) !=0)=false)(ho:DG a g=off)(hs:fT (nS s a g) (max 8 a)=st)(ah:Lay × Int)(HR:Hid (scan ⟨s,a,st,off,0,0,0⟩ 4 0 none=ah))(w:World):Z 166 #[I s,I a,.bool g] w λe w'=>
  e=.returned (.tuple #[ey ah.1,I ah.2])/\Below w w w':=by
 have aC:=wU (n:=8) h3;have bT:1<=st/\st<=100000:=by have h5:=wU (n:=nS s a g) (m:=max 8 a) qd;rw [hs] at h5;unfold nS at h5;split at h5<;>omega
 cases g
 .have e1:off=0:=ho.symm;subst e1;rcases XCv 8 a with h8|h8
  .rw [show max 8 a=a from qd] at hs;exact Zu s a st h1 h2 h3 h4 h8 hb (XAA hs) bT ah HR w
  .rw [show max 8 a=8 from qd] at hs;exact Zv s a st h1 h2 h3 h4 h8 hb (XAA hs) bT ah HR w
 .replace ho:fT 8 a=off:=ho;rw [ho] at aC;rw [nS,XAE R,ho] at hs;rcases XCv 8 a with h8|h8
  .rw [show max 8 a=a from qd] at hs;exact Zw s a st off h1 h2 h3 h4 h8 hb (XAA ho) ⟨aC.1,aC.2.1⟩ (XAA hs) bT ah HR w
  .rw [show max 8 a=8 from qd] at hs;exact Zx s a st off h1 h2 h3 h4 h8 hb (XAA ho) ⟨aC.1,aC.2.1⟩ (XAA hs) bT ah HR w
end Go.Proofs.YtedefgjfgdcfdaaGreatDoor
