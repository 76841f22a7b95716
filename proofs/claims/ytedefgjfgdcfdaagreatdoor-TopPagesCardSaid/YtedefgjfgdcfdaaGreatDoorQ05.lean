/- Walks and laws for TopPages. -/
import Derived.Test.YtedefgjfgdcfdaaGreatDoorQ04
import Derived.Lib.AppendZeros
import Derived.Deep.RegionLaw
import Derived.Deep.RegionHeld3
namespace Go.Proofs.YtedefgjfgdcfdaaGreatDoor
open Go.RowKit Go.Proofs.Tryz
set_option maxRecDepth 100000
set_option maxHeartbeats 4000000
structure Wt where
 id:Int
 at_:Int
 deriving DecidableEq
def uo(au:Int)(x:Wt):Bool:=decide (0<=x.id/\x.id<=9007199254740991/\au<=x.at_/\x.at_<=9007199254740991)
def okF:Int->List Wt->Bool
 |_, []=>true
 |au,x::r=>uo au x && okF x.at_ r
def bY(l:List Wt):Int:=bif decide (256<l.length) then 5 else bif okF 1 l then 0 else 2
theorem zh{au:Int}{x:Wt} :uo au x=true↔0<=x.id/\x.id<=9007199254740991/\au<=x.at_/\x.at_<=9007199254740991:=by simp [uo]
theorem ZA{au:Int}{l:List Wt}{k:Nat}(h:l.length<=k):okF au (l.drop k)=true:=qet
theorem Zz{au:Int}{l:List Wt}{k:Nat}(h:k<l.length):okF au (l.drop k)=(uo au l[k] && okF l[k].at_ (l.drop (k+1))):=by
 rw [XBt h];rfl
theorem G6{l:List Wt}(h:256<l.length):bY l=5:=by unfold bY;rw [XAR h];rfl
theorem Cb{l:List Wt}(h:l.length<=256)(hk:okF 1 l=true):bY l=0:=qgv
theorem Ca{l:List Wt}(h:l.length<=256)(hk:okF 1 l=false):bY l=2:=qgv
theorem tC{l:List Wt} :bY l=0↔l.length<=256/\okF 1 l=true:=by
 rcases XAc 256 l.length with h|h
 .rw [G6 h];simp;omega
 .cases hk:okF 1 l
  .rw [Ca h hk];simp
  .rw [Cb h hk];simp [h]
theorem ZB{au last':Int}(hl:au<=last'):∀{l:List Wt},okF last' l=true->okF au l=true
 | [],_=>rfl
 |y::r,h=>by simp only [okF,XAt,zh] at h ⊢;exact⟨⟨h.1.1,h.1.2.1,qd,h.1.2.2.2⟩,h.2⟩
theorem KJ:∀{au:Int}{l:List Wt}(k:Nat),okF au l=true->okF 1 l=true->okF 1 (l.drop k)=true
 |_, [],k,_,_=>by simp [okF]
 |au,y::r,0,_,h=>h
 |au,y::r,k+1,_,h=>by simp only [okF,XAt,zh] at h;exact KJ (au:=y.at_) k h.2 (ZB h.1.2.2.1 h.2)
def fZ(d:Int):List Wt->Nat
 | []=>0
 |x::r=>bif decide (x.at_<=d) then fZ d r+1 else 0
theorem GX(d:Int):∀l:List Wt,fZ d l<=l.length
 | []=>XAB _
 |x::r=>by unfold fZ;have:=GX d r;cases decide (x.at_<=d)<;>simp<;>omega
theorem Se{d:Int}{l:List Wt}{k:Nat}(h:l.length<=k):fZ d (l.drop k)=0:=qet
theorem Sf{d:Int}{l:List Wt}{k:Nat}(h:k<l.length)(hd:l[k].at_<=d):fZ d (l.drop k)=fZ d (l.drop (k+1))+1:=by
 rw [XBt h];show(bif decide (l[k].at_<=d) then _ else 0)=_;rw [XAR hd];rfl
theorem Sg{d:Int}{l:List Wt}{k:Nat}(h:k<l.length)(hd:d<l[k].at_):fZ d (l.drop k)=0:=by
 rw [XBt h];show(bif decide (l[k].at_<=d) then _ else 0)=_;rw [XAS qd];rfl
def gJ(l:List Wt)(x:Wt):List Wt × Int:=
 bif decide (bY l=0) then(bif decide (l.length=256) then([],5) else bif decide (bY (l++ [x])=0) then(l++ [x],0) else([],2)) else([],bY l)
theorem Bh{l:List Wt}{x:Wt}(h:bY l≠0):gJ l x=([],bY l):=by unfold gJ;rw [XAS h];rfl
theorem Bi{l:List Wt}{x:Wt}(h:bY l=0)(h2:l.length=256):gJ l x=([],5):=by unfold gJ;rw [XAR h,XAR h2];rfl
theorem Bg{l:List Wt}{x:Wt}(h:bY l=0)(h2:l.length≠256)(h3:bY (l++ [x])≠0):gJ l x=([],2):=by unfold gJ;rw [XAR h,XAS h2,XAS h3];rfl
theorem Bj{l:List Wt}{x:Wt}(h:bY l=0)(h2:l.length≠256)(h3:bY (l++ [x])=0):gJ l x=(l++ [x],0):=by unfold gJ;rw [XAR h,XAS h2,XAR h3];rfl
theorem SV{l:List Wt}(h:l.length<=256)(h0:bY l≠0):bY l=2:=by
 cases hk:okF 1 l
 .exact Ca h hk
 .exact absurd (Cb h hk) h0
def mJ(l:List Wt):List Int:=l.map (·.id)
def cT{α:Type}(U:Nat->α)(k:Nat)(x:α):Nat->α:=λj=>if j=k then x else U j
theorem upd_same{α:Type}(U:Nat->α)(k:Nat)(x:α):cT U k x k=x:=XAE rfl
theorem upd_ne{α:Type}(U:Nat->α){k j:Nat}(x:α)(h:j≠k):cT U k x j=U j:=XAD h
structure Gr where
 C:Nat
 D:Nat->Int
 L:Nat->List Wt
 ag:Nat
 go:Bool
 N:Nat->Bool
structure Inv(G:Gr):Prop where
 c1:1<=G.C
 c2:G.C<=8
 d:∀k,0<=G.D k/\G.D k<=8
 l:∀k,bY (G.L k)=0
 n:G.go=false->∀k,G.N k=false
 o:∀k,G.C<=k->G.N k=false
def newG(C:Nat):Gr:=⟨C,λ_=>0,λ_=> [],0,false,λ_=>false⟩
theorem Inv.new{C:Nat}(h1:1<=C)(h2:C<=8):Inv (newG C):=⟨h1,h2,λ_=>⟨XBG _,by show(0:Int)<=8;omega⟩,λ_=>rfl,λ_ _=>rfl,λ_ _=>rfl⟩
def jM(G:Gr)(k:Nat):Gr × Int:=bif decide (G.D k=8) then(G,5) else({ G with D:=cT G.D k (G.D k+1) },0)
def j5(G:Gr)(k:Nat):Gr × Int:=bif decide (G.D k=0) then(G,292) else({ G with D:=cT G.D k (G.D k-1) },0)
def rE(G:Gr):Gr:= { G with go:=true,N:=λk=>decide (k<G.C)||G.N k }
def mz(G:Gr):Gr:= { G with go:=false,ag:=G.ag+1 }
def jO(G:Gr)(k:Nat):Gr:= { G with N:=cT G.N k false }
def lastB(ag:Nat)(l:List Wt):Bool:=match l.getLast? with
 |none=>false
 |some x=>decide ((ag:Int)<x.at_)
def fK(f:Nat->Bool):Nat->Bool
 |0=>false
 |n+1=>fK f n||f n
def ue(G:Gr):Bool:=fK (λk=>lastB G.ag (G.L k)) G.C
def sm(G:Gr):Bool:=fK G.N G.C
def fR(G:Gr)(k:Nat):Gr × Int:=
 bif decide (0<G.D k) then(G,292) else bif !G.go then(G,0) else bif sm (jO G k) then(jO G k,0) else
 bif ue (mz (jO G k)) then(rE (mz (jO G k)),0) else(mz (jO G k),0)
def fo(G:Gr):Gr × Int:=bif G.go then(G,(G.ag:Int)+2) else(rE G,(G.ag:Int)+1)
def nY(G:Gr)(k:Nat)(r:List Wt × Int):Gr × Int:=bif decide (r.2=0) then({ G with L:=cT G.L k r.1 },0) else(G,r.2)
def iK(G:Gr)(k:Nat)(i:Int):Gr × Int:=
 bif decide (i<0\/9007199254740991<i) then(G,2) else bif decide ((G.L k).length=256) then(G,5) else
 nY (fo G).1 k (gJ (G.L k) ⟨i,(fo G).2⟩)
def sv(G:Gr)(k:Nat):Gr:= { G with L:=cT G.L k ((G.L k).drop (fZ G.ag (G.L k))) }
def polled(G:Gr)(k:Nat):List Int:=mJ ((G.L k).take (fZ G.ag (G.L k)))
theorem tw{f:Nat->Bool} :∀{n:Nat},fK f n=false->∀k,k<n->f k=false
 |0,_,k,hk=>qd
 |n+1,h,k,hk=>by
  unfold fK at h;rw [Bool.or_eq_false_iff] at h;rcases Nat.lt_succ_iff_lt_or_eq.1 hk with h1|rfl
  .exact tw h.1 k h1
  .exact h.2
theorem Bp{f:Nat->Bool} :∀{n:Nat},(∀k,k<n->f k=false)->fK f n=false
 |0,_=>rfl
 |n+1,h=>by unfold fK;rw [Bp (λk hk=>h k qd),h n qd];rfl
theorem PE{f:Nat->Bool}{n k:Nat}(hk:k<n)(h:f k=true):fK f n=true:=by
 cases e:fK f n
 .rw [tw e k hk] at h;cases h
 .rfl
section
variable{G:Gr}{k:Nat}
theorem Inv.lock(h:Inv G):Inv (jM G k).1:=by
 unfold jM;by_cases h8:G.D k=8
 .rw [XAR h8];exact h
 .rw [XAS h8];refine⟨h.c1,h.c2,λj=>?_,h.l,h.n,h.o⟩;show 0<=cT G.D k (G.D k+1) j/\cT G.D k (G.D k+1) j<=8;by_cases e:j=k
  .subst e;rw [upd_same];have:=h.d j;omega
  .rw [upd_ne _ _ e];exact h.d j
theorem Inv.unlock(h:Inv G):Inv (j5 G k).1:=by
 unfold j5;by_cases h8:G.D k=0
 .rw [XAR h8];exact h
 .rw [XAS h8];refine⟨h.c1,h.c2,λj=>?_,h.l,h.n,h.o⟩;show 0<=cT G.D k (G.D k-1) j/\cT G.D k (G.D k-1) j<=8;by_cases e:j=k
  .subst e;rw [upd_same];have:=h.d j;omega
  .rw [upd_ne _ _ e];exact h.d j
theorem Inv.need(h:Inv G):Inv (jO G k):=by
 refine⟨h.c1,h.c2,h.d,h.l,λhg j=>?_,λj hj=>?_⟩;all_goals
  show cT G.N k false j=false;by_cases e:j=k
  .subst e;exact upd_same _ _ _
  .rw [upd_ne _ _ e];first|exact h.n hg j|exact h.o j hj
theorem Inv.BA(h:Inv G):Inv (rE G):=by
 refine⟨h.c1,h.c2,h.d,h.l,(λhg=>qce),λj hj=>?_⟩;show(decide (j<G.C)||G.N j)=false;rw [h.o j hj,XAS (by have:G.C<=j:=hj;omega)];rfl
theorem Inv.end_(h:Inv G)(hn:sm G=false):Inv (mz G):=by
 refine⟨h.c1,h.c2,h.d,h.l,λ_ j=>?_,h.o⟩;rcases XAc j G.C with h1|h1
 .exact tw hn j h1
 .exact h.o j h1
theorem Inv.quiet(h:Inv G):Inv (fR G k).1:=by
 unfold fR;cases decide (0<G.D k)
 .cases G.go
  .exact h
  .cases hn:sm (jO G k)
   .cases ue (mz (jO G k))
    .exact h.need.end_ hn
    .exact(h.need.end_ hn).BA
   .exact h.need
 .exact h
theorem Inv.cal(h:Inv G):Inv (fo G).1:=by
 unfold fo;cases G.go
 .exact h.BA
 .exact h
theorem O9{l r:List Wt}{x:Wt}{e:Int}(h:gJ l x=(r,e))(h0:e=0):r=l++ [x]/\bY r=0:=by
 by_cases h1:bY l=0
 .by_cases h2:l.length=256
  .rw [Bi h1 h2] at h;injection h with _ h3;omega
  .by_cases h3:bY (l++ [x])=0
   .rw [Bj h1 h2 h3] at h;injection h with h4 h5;subst h4;exact⟨R,h3⟩
   .rw [Bg h1 h2 h3] at h;injection h with _ h3;omega
 .rw [Bh h1] at h;injection h with _ h3;omega
theorem Inv.put(h:Inv G){r:List Wt × Int}(hr:r.2=0->bY r.1=0):Inv (nY G k r).1:=by
 unfold nY;by_cases h0:r.2=0
 .rw [XAR h0];refine⟨h.c1,h.c2,h.d,λj=>?_,h.n,h.o⟩;show bY (cT G.L k r.1 j)=0;by_cases e:j=k
  .subst e;rw [upd_same];exact hr h0
  .rw [upd_ne _ _ e];exact h.l j
 .rw [XAS h0];exact h
theorem Inv.call(h:Inv G)(i:Int):Inv (iK G k i).1:=by
 unfold iK;cases decide (i<0\/9007199254740991<i)
 .cases decide ((G.L k).length=256)
  .exact h.cal.put (λh0=>(O9 (l:=G.L k) (x:=⟨i,(fo G).2⟩) R h0).2)
  .exact h
 .exact h
theorem Inv.poll(h:Inv G):Inv (sv G k):=by
 refine⟨h.c1,h.c2,h.d,λj=>?_,h.n,h.o⟩;show bY (cT G.L k ((G.L k).drop (fZ G.ag (G.L k))) j)=0;by_cases e:j=k
 .subst e;rw [upd_same];have h1:=tC.1 (h.l j);exact tC.2 ⟨by rw [XB6];omega,KJ (au:=1) _ h1.2 h1.2⟩
 .rw [upd_ne _ _ e];exact h.l j
end
def di:List Wt->List Value
 | []=> []
 |x::r=>I x.id::I x.at_::di r
theorem lU:∀l:List Wt,(di l).length=l.length*2
 | []=>rfl
 |x::r=>by simp only [di,XA0,lU r];omega
theorem aat(a:List Wt):∀b:List Wt,di (a++b)=di a++di b:=by
 induction a with
 |nil=>intro b;rfl
 |cons x r ih=>intro b;simp only [XA_,di,ih]
theorem Lo:∀{l:List Wt}{k:Nat}(h:k<l.length),(di l)[k*2]? =I l[k].id
 | [],k,h=>qer
 |x::r,0,_=>rfl
 |x::r,k+1,h=>by rw [show(k+1)*2=k*2+1+1 from qd];simp only [di,XEF,List.getElem_cons_succ];exact Lo qjy
theorem Lm:∀{l:List Wt}{k:Nat}(h:k<l.length),(di l)[k*2+1]? =I l[k].at_
 | [],k,h=>qer
 |x::r,0,_=>rfl
 |x::r,k+1,h=>by rw [show(k+1)*2+1=(k*2+1)+1+1 from qd];simp only [di,XEF,List.getElem_cons_succ];exact Lm qjy
theorem DW:∀{l:List Wt},∀u∈di l,u.oneCell'=true
 | [],u,h=>qck
 |x::r,u,h=>by
  simp only [di,XBD] at h;rcases h with rfl|rfl|h
  .rfl
  .rfl
  .exact DW u h
theorem Ln:∀(l:List Wt)(k:Nat),di (l.drop k)=(di l).drop (k*2)
 | [],k=>by simp [di]
 |x::r,0=>rfl
 |x::r,k+1=>by rw [show(k+1)*2=k*2+1+1 from qd];simp only [List.drop_succ_cons,di];exact Ln r k
abbrev dq(w:World)(A:Option Addr)(l:List Wt):Prop:=Row w A (di l)
section
variable{w w':World}{A:Option Addr}{l:List Wt}
theorem Eh{b off:Nat}(h:∀j u,(di l)[j]? =some u->w.cell? (b,off+j)=some u){k:Nat}(hk:k<l.length):
  w.cell? (b,off+k*2)=I l[k].id/\w.cell? (b,off+k*2+1)=I l[k].at_:=
 ⟨h _ _ (Lo hk),h _ _ (Lm hk)⟩
theorem dq.reads{n:Nat}(h:dq w A l)(hn:l.length=n):Reads w w.heap.size 2 A n (di l):=
 ⟨by rw [lU,hn],λhp=>by
  obtain⟨b,off,e,hb,hc⟩:=h (by rw [lU];omega)
  exact⟨_,e,hb,λj u hu=>by rw [addr_add];exact hc j u hu⟩⟩
theorem dq.gj{base:Nat}{e:TypeId}{n c:Nat}(h:w.ownsRow base e 2 (.slice A n c) n (di l)):dq w A l:=λhp=>by
 have hl:=h.1;obtain⟨g,cap,hv,_,hlt⟩:=h.form qd;have hA:A=some ⟨g,0,none⟩:=by injection hv
 subst hA;refine⟨g,0,R,hlt,λj u hu=>?_⟩;have:=h.cells (g:=g) R j u hu
 rwa [addr_add] at this
theorem dq.slice{base:Nat}{e:TypeId}{v:Value}{n:Nat}(h:w.ownsRow base e 2 v n (di l)):∃A c,v=.slice A n c/\n<=c/\dq w A l:=by
 have h':=h;obtain⟨_,⟨rfl,rfl⟩|⟨g,cap,cur,rfl,_,_,hc,_⟩⟩:=h
 .exact⟨none,0,R,XAB _,dq.gj h'⟩
 .exact⟨_,cap,R,hc,dq.gj h'⟩
end
section
variable{w w' a:World}{b:Nat}
end
structure ed(w:World)(gs:List Nat)(A:Option Addr)(n c:Nat)(l:List Wt):Prop where
 len:l.length=n
 cap:n<=c
 row:dq w A l
 ne:0<n->∀g off,A=some ⟨g,off,none⟩->g∉gs
def iJ(w:World)(gs:List Nat)(v:Value)(l:List Wt):Prop:=(v=.nilIface/\l= [])\/∃A n c,v=.iface 230 (.slice A n c)/\ed w gs A n c l
section
variable{w w':World}{b:Nat}{gs:List Nat}{A:Option Addr}{n c:Nat}{l:List Wt}{v:Value}
theorem ed.nil(w:World)(gs:List Nat)(A:Option Addr)(c:Nat):ed w gs A 0 c []:=⟨R,XAJ _,(λh=>by simp [di] at h),λh=>qd⟩
theorem ed.below(h:ed w gs A n c l)(hb:Below w w w'):ed w' gs A n c l:=⟨h.len,h.cap,Row.below h.row hb,h.ne⟩
theorem ed.one(h:ed w gs A n c l)(hT:One b w w')(hg:b∈gs):ed w' gs A n c l:=
 ⟨h.len,h.cap,Row.one h.row hT (λhp g off e e'=>h.ne (by rw [lU] at hp;have:=h.len;omega) g off e (by rw [e'];exact hg)),h.ne⟩
theorem iJ.below(h:iJ w gs v l)(hb:Below w w w'):iJ w' gs v l:=by
 rcases h with h|⟨A,n,c,h1,h2⟩
 .exact .inl h
 .exact .inr ⟨A,n,c,h1,h2.below hb⟩
theorem iJ.one(h:iJ w gs v l)(hT:One b w w')(hg:b∈gs):iJ w' gs v l:=by
 rcases h with h|⟨A,n,c,h1,h2⟩
 .exact .inl h
 .exact .inr ⟨A,n,c,h1,h2.one hT hg⟩
theorem iJ.widen(h:iJ w gs v l)(hl:l= [])(gs':List Nat):iJ w gs' v l:=by
 rcases h with h|⟨A,n,c,h1,h2⟩
 .exact .inl h
 .exact .inr ⟨A,n,c,h1,h2.len,h2.cap,h2.row,λhn=>by have:=h2.len;rw [hl] at this;simp at this;omega⟩
end
structure MK(w:World)(gs:List Nat)(cs:Array Value)(G:Gr):Prop where
 size:cs.size=27
 iN:cs[0]? =I G.C
 deep:∀k,k<8->cs[1+k]? =I (G.D k)
 rows:∀k,k<8->∃v,cs[9+k]? =some v/\iJ w gs v (G.L k)
 ended:cs[17]? =I G.ag
 going:cs[18]? =some (.bool G.go)
 needs:∀k,k<8->cs[19+k]? =some (.bool (G.N k))
def aN(w:World)(b:Nat)(gs:List Nat)(G:Gr):Prop:=b∈gs/\(∀g∈gs,g<w.heap.size)/\∃cs,ak w b 121 cs/\MK w gs cs G
section
variable{w w':World}{b:Nat}{gs:List Nat}{G:Gr}
theorem aN.mem(h:aN w b gs G):b∈gs:=h.1
theorem aN.bj(h:aN w b gs G):∀g∈gs,g<w.heap.size:=h.2.1
theorem aN.lt(h:aN w b gs G):b<w.heap.size:=by obtain⟨-,-,cs,hB,-⟩:=h;exact hB.lt
theorem aN.frz(h:aN w b gs G)(i:Nat):w.frozen? (b,i)=false:=by obtain⟨-,-,cs,hB,-⟩:=h;exact hB.frozen i
theorem aN.iN(h:aN w b gs G):w.cell? (b,0)=I G.C:=by obtain⟨hg,hz,cs,hB,hC⟩:=h;rw [hB.cell];exact hC.iN
theorem aN.deep(h:aN w b gs G){k:Nat}(hk:k<8):w.cell? (b,1+k)=I (G.D k):=by obtain⟨hg,hz,cs,hB,hC⟩:=h;rw [hB.cell];exact hC.deep k hk
theorem aN.rows(h:aN w b gs G){k:Nat}(hk:k<8):∃v,w.cell? (b,9+k)=some v/\iJ w gs v (G.L k):=by obtain⟨hg,hz,cs,hB,hC⟩:=h;rw [hB.cell];exact hC.rows k hk
theorem aN.ended(h:aN w b gs G):w.cell? (b,17)=I G.ag:=by obtain⟨hg,hz,cs,hB,hC⟩:=h;rw [hB.cell];exact hC.ended
theorem aN.going(h:aN w b gs G):w.cell? (b,18)=some (.bool G.go):=by obtain⟨hg,hz,cs,hB,hC⟩:=h;rw [hB.cell];exact hC.going
theorem aN.needs(h:aN w b gs G){k:Nat}(hk:k<8):w.cell? (b,19+k)=some (.bool (G.N k)):=by obtain⟨hg,hz,cs,hB,hC⟩:=h;rw [hB.cell];exact hC.needs k hk
theorem aN.below(h:aN w b gs G)(hb:Below w w w'):aN w' b gs G:=by
 obtain⟨hg,hz,cs,hB,hC⟩:=h;exact⟨hg,λg h=>XAH (hz g h) hb.size,cs,hB.below hb,hC.size,hC.iN,hC.deep,λk hk=>(hC.rows k hk).imp λv h=>⟨h.1,h.2.below hb⟩,hC.ended,hC.going,hC.needs⟩
theorem aN.alloc(h:aN w b gs G)(o:Obj):aN (w.alloc o) b gs G:=h.below ((XAC _ _).alloc (XAB _) _)
theorem aN.drew(h:aN w b gs G):aN w.drew b gs G:=h.below (XAC _ _).drew
theorem aN.drewN(h:aN w b gs G)(n:Nat):aN (w.drewN n) b gs G:=h.below (XCr (XAC _ _) n)
theorem dQ{cs:Array Value}{i j:Nat}{u:Value}(he:i≠j):(cs.setIfInBounds i u)[j]? =cs[j]? :=XBF he
theorem set_self{cs:Array Value}{i n:Nat}{u:Value}(h:cs.size=n)(hi:i<n):(cs.setIfInBounds i u)[i]? =some u:=XCR qd
theorem aN.Lu(h:aN w b gs G){k:Nat}(hk:k<8)(x:Int):aN (w.setCell (b,1+k) (I x)) b gs { G with D:=cT G.D k x } :=by
 obtain⟨hg,hz,cs,hB,hC⟩:=h;have hT:=(One.refl b w).set (1+k) (I x);refine⟨hg,λg h=>qdo,_,hB.aJ (1+k) _,qjr,?_,λj hj=>?_,λj hj=>?_,?_,?_,λj hj=>?_⟩
 .rw [dQ qd];exact hC.iN
 .show(_:Option Value)=I (cT G.D k x j);by_cases e:j=k
  .subst e;rw [upd_same,set_self hC.size qd]
  .rw [upd_ne _ _ e,dQ qd];exact hC.deep j hj
 .rw [dQ qd];exact(hC.rows j hj).imp λv h=>⟨h.1,h.2.one hT hg⟩
 .rw [dQ qd];exact hC.ended
 .rw [dQ qd];exact hC.going
 .rw [dQ qd];exact hC.needs j hj
theorem aN.Ly(h:aN w b gs G){k:Nat}(hk:k<8)(x:Bool):aN (w.setCell (b,19+k) (.bool x)) b gs { G with N:=cT G.N k x } :=by
 obtain⟨hg,hz,cs,hB,hC⟩:=h;have hT:=(One.refl b w).set (19+k) (.bool x);refine⟨hg,λg h=>qdo,_,hB.aJ (19+k) _,qjr,?_,λj hj=>?_,λj hj=>?_,?_,?_,λj hj=>?_⟩
 .rw [dQ qd];exact hC.iN
 .rw [dQ qd];exact hC.deep j hj
 .rw [dQ qd];exact(hC.rows j hj).imp λv h=>⟨h.1,h.2.one hT hg⟩
 .rw [dQ qd];exact hC.ended
 .rw [dQ qd];exact hC.going
 .show(_:Option Value)=some (.bool (cT G.N k x j));by_cases e:j=k
  .subst e;rw [upd_same,set_self hC.size qd]
  .rw [upd_ne _ _ e,dQ qd];exact hC.needs j hj
theorem aN.zT(h:aN w b gs G)(x:Bool):aN (w.setCell (b,18) (.bool x)) b gs { G with go:=x } :=by
 obtain⟨hg,hz,cs,hB,hC⟩:=h;have hT:=(One.refl b w).set 18 (.bool x);refine⟨hg,λg h=>qdo,_,hB.aJ 18 _,qjr,?_,λj hj=>?_,λj hj=>?_,?_,?_,λj hj=>?_⟩
 .rw [dQ qd];exact hC.iN
 .rw [dQ qd];exact hC.deep j hj
 .rw [dQ qd];exact(hC.rows j hj).imp λv h=>⟨h.1,h.2.one hT hg⟩
 .rw [dQ qd];exact hC.ended
 .rw [set_self hC.size qd]
 .rw [dQ qd];exact hC.needs j hj
theorem aN.abm(h:aN w b gs G)(x:Nat):aN (w.setCell (b,17) (I x)) b gs { G with ag:=x } :=by
 obtain⟨hg,hz,cs,hB,hC⟩:=h;have hT:=(One.refl b w).set 17 (I x);refine⟨hg,λg h=>qdo,_,hB.aJ 17 _,qjr,?_,λj hj=>?_,λj hj=>?_,?_,?_,λj hj=>?_⟩
 .rw [dQ qd];exact hC.iN
 .rw [dQ qd];exact hC.deep j hj
 .rw [dQ qd];exact(hC.rows j hj).imp λv h=>⟨h.1,h.2.one hT hg⟩
 .rw [set_self hC.size qd]
 .rw [dQ qd];exact hC.going
 .rw [dQ qd];exact hC.needs j hj
theorem aN.setRow(h:aN w b gs G){k:Nat}(hk:k<8){A:Option Addr}{n c:Nat}{l:List Wt}(hl:ed w gs A n c l):aN (w.setCell (b,9+k) (.iface 230 (.slice A n c))) b gs { G with L:=cT G.L k l } :=by
 obtain⟨hg,hz,cs,hB,hC⟩:=h;have hT:=(One.refl b w).set (9+k) (.iface 230 (.slice A n c));refine⟨hg,λg h=>qdo,_,hB.aJ (9+k) _,qjr,?_,λj hj=>?_,λj hj=>?_,?_,?_,λj hj=>?_⟩
 .rw [dQ qd];exact hC.iN
 .rw [dQ qd];exact hC.deep j hj
 .show ∃v,_/\iJ _ gs v (cT G.L k l j);by_cases e:j=k
  .subst e;rw [upd_same,set_self hC.size qd];exact⟨_,R,.inr ⟨A,n,c,R,hl.one hT hg⟩⟩
  .rw [upd_ne _ _ e,dQ qd];exact(hC.rows j hj).imp λv h=>⟨h.1,h.2.one hT hg⟩
 .rw [dQ qd];exact hC.ended
 .rw [dQ qd];exact hC.going
 .rw [dQ qd];exact hC.needs j hj
theorem aN.new(w:World)(C:Nat):aN (w.alloc (.cells #[I C,I 0,I 0,I 0,I 0,I 0,I 0,I 0,I 0,.nilIface,.nilIface,.nilIface,.nilIface,.nilIface,.nilIface,.nilIface,.nilIface,I 0,.bool false,.bool false,.bool false,.bool false,.bool false,.bool false,.bool false,.bool false,.bool false] 121)) w.heap.size [w.heap.size] (newG C):=by
 refine⟨ql,ql,_,ak.new w _ _,R,R,λk hk=>?_,λk hk=>?_,R,R,λk hk=>?_⟩
 .match k,hk with
  |0,_|1,_|2,_|3,_|4,_|5,_|6,_|7,_=>rfl
 .refine⟨.nilIface,?_,.inl ⟨R,R⟩⟩
  match k,hk with
  |0,_|1,_|2,_|3,_|4,_|5,_|6,_|7,_=>rfl
 .match k,hk with
  |0,_|1,_|2,_|3,_|4,_|5,_|6,_|7,_=>rfl
theorem aN.widen(h:aN w b gs G)(hl:∀k,G.L k= []){gs':List Nat}(hb:b∈gs')(hg:∀g∈gs',g<w.heap.size):aN w b gs' G:=by
 obtain⟨-,-,cs,hB,hC⟩:=h;exact⟨hb,hg,cs,hB,hC.size,hC.iN,hC.deep,λk hk=>(hC.rows k hk).imp λv h=>⟨h.1,h.2.widen (hl k) gs'⟩,hC.ended,hC.going,hC.needs⟩
end
def kF(C:Nat)(x:Int):Int:=bif decide (0<=x/\x<C) then 0 else 9
theorem Gf{C:Nat}{x:Int}(h:¬(0<=x/\x<C)):kF C x=9:=by unfold kF;rw [XAS h];rfl
theorem rD{C:Nat}{x:Int}(h:0<=x/\x<C):kF C x=0:=by unfold kF;rw [XAR h];rfl
theorem Vm(C:Nat)(h1:1<=C)(h2:C<=8)(w:World):Z 24 #[I C] w λe w'=>
  ∃b,e=.returned (.tuple #[(b,0),I 0])/\w.heap.size<=b/\aN w' b [b] (newG C)/\Below w w w':=by
 have a1:¬(C:Int)<1:=qd;have a2:¬(8:Int)<(C:Int):=qd;go_enter func24,ntmps24;go_wp2
 go_ret2
 exact⟨_,R,XAB _,aN.new w C,qa⟩
theorem gN(w:World)(b:Nat)(gs:List Nat)(G:Gr)(h:aN w b gs G)(hI:Inv G)(x:Int):Z 87 #[(b,0),I x] w λe w'=>
  e=.returned (I (kF G.C x))/\w'=w:=by
 have c0:=h.iN;have h1:=hI.c1;have h2:=hI.c2;obtain⟨C,hC⟩:=Xq G.C;rw [hC] at c0 h1 h2 ⊢;clear h hI hC;have hz:((C:Int)==0)=false:=qec
 rcases (by omega:x<0\/(0<=x/\(C:Int)<=x)\/(0<=x/\x<C)) with h3|⟨h3,h4⟩|⟨h3,h4⟩
 all_goals
  first|rw [rD ⟨h3,h4⟩]|rw [Gf qd]
  go_enter func87,ntmps87;go_wp2;go_ret;exact⟨R,R⟩
theorem as_nil(w:World):(Instr.typeAssert .nilIface 20 230 true).run prog w=.ok (.tuple #[.slice none 0 0,.bool false]) w:=qh
theorem PL(w:World)(v:Value):(Instr.typeAssert (.iface 230 v) 20 230 true).run prog w=.ok (.tuple #[v,.bool true]) w:=qh
theorem pR(w:World)(b:Nat)(gs:List Nat)(G:Gr)(h:aN w b gs G)(k:Nat)(hk:k<8):Z 133 #[(b,0),I k] w λe w'=>
  ∃A n c,e=.returned (.slice A n c)/\ed w gs A n c (G.L k)/\w'=w:=by
 obtain⟨v,hv,hR⟩:=h.rows hk;obtain⟨l,hl⟩:=Xq (G.L k);rw [hl] at hR ⊢;have k0:(0:Int)<=(k:Int):=qd
 have k1:(k:Int)<8:=qd;clear h hl;rcases hR with⟨rfl,rfl⟩|⟨A,n,c,rfl,hR⟩
 .have q1:=as_nil;go_enter func133,ntmps133;go_wp2;go_ret;exact⟨_,_,_,R,ed.nil _ _ _ _,R⟩
 .have q1:=PL;go_enter func133,ntmps133;go_wp2;go_ret;exact⟨_,_,_,R,hR,R⟩
def oS(G:Gr)(x:Int):Int:=bif decide (0<=x/\x<G.C) then G.D x.toNat else 0
theorem SE(w:World)(b:Nat)(gs:List Nat)(G:Gr)(h:aN w b gs G)(hI:Inv G)(x:Int):Z 62 #[(b,0),I x] w λe w'=>
  e=.returned (I (oS G x))/\w'=w:=by
 have HG:=XAA h;have HI:=XAA hI;by_cases hx:0<=x/\x<G.C
 .have hz:Hid (kF G.C x=0):=XAA (rD hx);obtain⟨k,rfl⟩:=XAb hx.1;have hk8:k<8:=by have:=hI.c2;omega
  have hv:oS G k=G.D k:=by unfold oS;rw [XAR hx];simp
  have c1:=h.deep hk8;rw [hv];have k0:(0:Int)<=(k:Int):=qd
  have k1:(k:Int)<8:=qd;clear h hI hv hx;go_enter func62,ntmps62;go_wp2_with (first|(go_at_call 87;refine Xr (gN _ b gs G HG.out HI.out k) ?_;rw [hz.out]));go_ret;exact⟨R,R⟩
 .have hz:Hid (kF G.C x=9):=XAA (Gf hx);have hv:oS G x=0:=by unfold oS;rw [XAS hx];rfl
  rw [hv];clear h hI hv hx;go_enter func62,ntmps62;go_wp2_with (first|(go_at_call 87;refine Xr (gN _ b gs G HG.out HI.out x) ?_;rw [hz.out]));go_ret;exact⟨R,R⟩
section
variable{b:Nat}{gs:List Nat}{G:Gr}
theorem YU(w:World)(h:aN w b gs G)(hI:Inv G)(k:Nat)(hk:k<G.C):Z 82 #[(b,0),I k] w λe w'=>
  e=.returned (I (jM G k).2)/\aN w' b gs (jM G k).1/\One b w w':=by
 have HG:=XAA h;have HI:=XAA hI;have hz:Hid (kF G.C k=0):=XAA (rD ⟨qd,qd⟩);have hk8:k<8:=qgn
 have c1:=h.deep hk8;have f1:=h.frz (1+k);obtain⟨d1,d2⟩:=hI.d k;have hl:=h.lt;have k0:(0:Int)<=(k:Int):=qd
 have k1:(k:Int)<8:=qd;by_cases h8:G.D k=8
 .have e0:jM G k=(G,5):=by unfold jM;rw [XAR h8];rfl
  rw [e0];rw [h8] at c1;clear h hI hk d1 d2 h8 e0;go_enter func82,ntmps82;go_wp2_with (first|(go_at_call 87;refine Xr (gN _ b gs G HG.out HI.out k) ?_;rw [hz.out]));go_ret;exact⟨R,HG.out,One.refl _ _⟩
 .have e0:jM G k=({ G with D:=cT G.D k (G.D k+1) },0):=by unfold jM;rw [XAS h8];rfl
  rw [e0];have HS:=XAA ((h.drewN 2).Lu hk8 (G.D k+1));obtain⟨d,hd⟩:=Xq (G.D k);have HD:=XAA hd;rw [hd] at c1 d1 d2 h8 HS;have hb8:(d==8)=false:=by rw [XAf];exact h8
  have sO:IntKind.i64.wrap (d+1)=d+1:=XAM _ qd;clear h hI hk e0 hd;go_enter func82,ntmps82;go_wp2_with (first|(go_at_call 87;refine Xr (gN _ b gs G HG.out HI.out k) ?_;rw [hz.out]));go_region;all_goals go_wp2
  go_ret;exact⟨R,qgx,((One.refl _ _).drewN _).set _ _⟩
theorem abe(w:World)(h:aN w b gs G)(hI:Inv G)(k:Nat)(hk:k<G.C):Z 83 #[(b,0),I k] w λe w'=>
  e=.returned (I (j5 G k).2)/\aN w' b gs (j5 G k).1/\One b w w':=by
 have HG:=XAA h;have HI:=XAA hI;have hz:Hid (kF G.C k=0):=XAA (rD ⟨qd,qd⟩);have hk8:k<8:=qgn
 have c1:=h.deep hk8;have f1:=h.frz (1+k);obtain⟨d1,d2⟩:=hI.d k;have hl:=h.lt;have k0:(0:Int)<=(k:Int):=qd
 have k1:(k:Int)<8:=qd;by_cases h8:G.D k=0
 .have e0:j5 G k=(G,292):=by unfold j5;rw [XAR h8];rfl
  rw [e0];rw [h8] at c1;clear h hI hk d1 d2 h8 e0;go_enter func83,ntmps83;go_wp2_with (first|(go_at_call 87;refine Xr (gN _ b gs G HG.out HI.out k) ?_;rw [hz.out]));go_ret;exact⟨R,HG.out,One.refl _ _⟩
 .have e0:j5 G k=({ G with D:=cT G.D k (G.D k-1) },0):=by unfold j5;rw [XAS h8];rfl
  rw [e0];obtain⟨d,hd⟩:=Xq (G.D k);have HD:=XAA hd;rw [hd] at c1 d1 d2 h8;have hb8:(d==0)=false:=by rw [XAf];exact h8
  have sO:IntKind.i64.wrap (d-1)=d-1:=XAM _ qd;clear h hI hk e0 hd;go_enter func83,ntmps83;go_wp2_with (first|(go_at_call 87;refine Xr (gN _ b gs G HG.out HI.out k) ?_;rw [hz.out]));go_region;all_goals go_wp2
  go_ret;exact⟨R,qgx,((One.refl _ _).drewN _).set _ _⟩
def mq(G:Gr)(j:Nat):Gr:= { G with go:=true,N:=λk=>decide (k<j)||G.N k }
theorem P5(G:Gr)(j:Nat): { mq G j with N:=cT (mq G j).N j true } =mq G (j+1):=by
 have e:cT (mq G j).N j true=(mq G (j+1)).N:=by
  funext k;show cT (λk=>decide (k<j)||G.N k) j true k=(decide (k<j+1)||G.N k);by_cases h:k=j
  .subst h;rw [upd_same,XAR qd];rfl
  .rw [upd_ne _ _ h];by_cases h2:k<j
   .rw [XAR h2,XAR qd]
   .rw [XAS h2,XAS qd]
 show Gr.mk _ _ _ _ _ (cT (mq G j).N j true)=_;rw [e];rfl
theorem P6(G:Gr): { G with go:=true } =mq G 0:=by
 unfold mq;simp
theorem BB(w:World)(h:aN w b gs G)(hI:Inv G):Z 89 #[(b,0)] w λe w'=>
  e=.returned (.tuple #[])/\aN w' b gs (rE G)/\One b w w':=by
 have c0:=h.iN;have f0:=h.frz 18;have c9:=h.going;have hl:=h.lt;have HS:=XAA (h.zT true);have HE:Hid (rE G=mq G G.C):=XAA rfl;rw [P6] at HS;obtain⟨C,hC⟩:=Xq G.C;have h2:=hI.c2;rw [hC] at c0 h2 HE;have HC:=XAA hC;clear h hI hC;go_enter func89,ntmps89;go_wp2;go_loopw [10] (λq wr=>∃j:Nat,j<=C/\q=I j/\Hid (aN wr b gs (mq G j))/\One b w wr) (λq _=>C-(intOf q).toNat)
 case atStart=>exact⟨0,qd,R,HS,(One.refl _ _).set _ _⟩
 case round=>
  obtain⟨j,hj,rfl,HJ,hT⟩:=hrel;by_cases hlt:j<C
  .have j8:j<8:=by omega
   have cN:=HJ.out.needs j8;have fN:=HJ.out.frz (19+j);have j0:(0:Int)<=(j:Int):=qd
   have j1:(j:Int)<(C:Int):=qd;have j2:(j:Int)<8:=qd;have HN:=XAA (HJ.out.Ly j8 true);rw [P5] at HN;go_wp2;go_roundw
   case rel=>exact⟨j+1,qd,qbf,HN,hT.set _ _⟩
   case measure=>simp [intOf];omega
  .obtain rfl:j=C:=by omega
   go_wp2;go_end0;exact⟨R,by rw [HE.out];exact HJ.out,hT⟩
theorem YI{ag:Nat}{l:List Wt}{m:Nat}(h:l.length=m+1):lastB ag l=decide ((ag:Int)<(l[m]' qd).at_):=by
 unfold lastB;rw [List.getLast?_eq_getElem?,show l.length-1=m from qd,XAO qd]
theorem abf(w:World)(h:aN w b gs G)(hI:Inv G):Z 88 #[(b,0)] w λe w'=>
  e=.returned (.bool (ue G))/\Below w w w':=by
 have HG:=XAA h;have HI:=XAA hI;have c0:=h.iN;have cE:=h.ended;have hl:=h.lt;have h2:=hI.c2;have HE:Hid (ue G=fK (λk=>lastB G.ag (G.L k)) G.C):=XAA rfl;obtain⟨C,hC⟩:=Xq G.C;rw [hC] at c0 h2 HE;have HC:=XAA hC;obtain⟨ag,hE⟩:=Xq G.ag;rw [hE] at cE HE;clear h hI hC hE;go_enter func88,ntmps88;go_wp2;go_loopw [9] (λq wr=>∃j:Nat,j<=C/\q=I j/\Hid (fK (λk=>lastB ag (G.L k)) j=false)/\Below w w wr) (λq _=>C-(intOf q).toNat)
 case atStart=>exact⟨0,qd,R,XAA R,XAC _ _⟩
 case round=>
  obtain⟨j,hj,rfl,HJ,hb⟩:=hrel;have j0:(0:Int)<=(j:Int):=qd
  by_cases hlt:j<C
  .have j1:(j:Int)<(C:Int):=by omega
   have j8:j<8:=qd;have cE1:=(hb.cell (p:=⟨b,17,none⟩) hl).trans cE;have hz:=hb.size;have hl1:b<wr.heap.size:=XAH hl hz;go_wp2_with (first|(go_at_call 133;refine(pR _ b gs G (HG.out.below hb) j j8).mono ?_;rintro e wq ⟨A,n,c,rfl,hR,hwq⟩;replace hwq:=hwq.symm;subst hwq));rcases XAr n with h0|h0
   .subst h0;have HN:Hid (fK (λk=>lastB ag (G.L k)) (j+1)=false):=XAA (by
     unfold fK
     rw [HJ.out,XBN hR.len];rfl)
    clear hR;(refine ba (wr.heap.size) (λhxc aA hxh hxn=>?_);(repeat (go_big_quiet_step (fail)));refine XAG ?_;clear hxc aA hxh hxn;intro w1 hb1 hz1 hc1 hf1);go_wp2;go_roundw
    case rel=>exact⟨j+1,qd,qbf,HN,hb.trans (hb1.mono hz)⟩
    case measure=>simp [intOf];omega
   .obtain⟨m,rfl⟩:∃m,n=m+1:=⟨n-1,qd⟩;obtain⟨g,off,rfl,hgl,hcells⟩:=hR.row (by rw [lU,hR.len];omega);have hml:m<(G.L j).length:=by rw [hR.len];omega
    have cA:=(Eh hcells hml).2;have HL:=XAA (YI (ag:=ag) hR.len);obtain⟨a,ha⟩:=Xq ((G.L j)[m].at_);rw [ha] at cA HL;have m0:(0:Int)<=(m:Int):=qd
    have We:=(tC.1 (HI.out.l j)).1;rw [hR.len] at We;have hc:=hR.cap;have m1:((m+1:Nat):Int)-1=(m:Int):=qd
    have m2:(m:Int)+1-1=(m:Int):=qd;have m3:(0:Int)<(m:Int)+1:=qd;clear hR hcells hml ha;by_cases ht:(ag:Int)<a
    .have HY:Hid (fK (λk=>lastB ag (G.L k)) C=true):=XAA (PE (k:=j) hlt (by rw [HL.out];exact XAR ht));(refine ba (wr.heap.size) (λhxc aA hxh hxn=>?_);(repeat (go_big_quiet_step (fail)));refine XAG ?_;clear hxc aA hxh hxn;intro w1 hb1 hz1 hc1 hf1);go_wp2;go_ret;exact⟨by rw [HE.out,HY.out];rfl,hb.trans (hb1.mono hz)⟩
    .have HN:Hid (fK (λk=>lastB ag (G.L k)) (j+1)=false):=XAA (by
      unfold fK
      rw [HJ.out,HL.out,XAS ht];rfl)
     (refine ba (wr.heap.size) (λhxc aA hxh hxn=>?_);(repeat (go_big_quiet_step (fail)));refine XAG ?_;clear hxc aA hxh hxn;intro w1 hb1 hz1 hc1 hf1)
     go_wp2;go_roundw
     case rel=>exact⟨j+1,qd,qbf,HN,hb.trans (hb1.mono hz)⟩
     case measure=>simp [intOf];omega
  .obtain rfl:j=C:=by omega
   go_wp2;go_ret;exact⟨by rw [HE.out,HJ.out];rfl,hb⟩
end
theorem RJ(l:List Wt)(b off c:Nat)(w:World)(n:Nat)(hn:Hid (l.length=n))(hn':n<=256)(hb:b<w.heap.size)(hc:∀j u,(di l)[j]? =some u->w.cell? (b,off+j)=some u):
  Z 185 #[.slice (b,off) n c] w λe w'=>e=.returned (I (bY l))/\Below w w w':=by
 have HC:=XAA hc;obtain⟨ah,hR⟩:=Xq (okF 1 l);have Na:Hid (ah=true->bY l=0):=XAA (λh=>Cb (by rw [hn.out];exact hn') (by rw [hR,h]));have HE2:Hid (ah=false->bY l=2):=XAA (λh=>Ca (by rw [hn.out];exact hn') (by rw [hR,h]));have HR:=XAA hR;clear hc hR;go_enter func185,ntmps185;go_wp2;go_loopw [3,11] (λt j wr=>∃(k:Nat)(au:Int),k<=n/\j=I k/\t=I au/\Hid (okF au (l.drop k)=ah)/\Below w w wr) (λ_ j _=>n-(intOf j).toNat)
 case atStart=>exact⟨0,1,qd,R,R,HR,XAC _ _⟩
 case round=>
  obtain⟨k,au,hk,rfl,rfl,HK,hw⟩:=hrel;have hz:=hw.size;by_cases hlt:k<n
  .have hlt':k<l.length:=by rw [hn.out];exact hlt
   obtain⟨x,hx⟩:=Xq (l[k]);obtain⟨c0,c1⟩:=Eh HC.out hlt';have HS:=XAA (Zz (au:=au) hlt');rw [hx] at c0 c1 HS;have d0:=(hw.cell (p:=⟨b,off+k*2,none⟩) hb).trans c0;have d1:=(hw.cell (p:=⟨b,off+k*2+1,none⟩) hb).trans c1;obtain⟨xi,xa⟩:=x;have k0:(0:Int)<=(k:Int):=qd
   have k1:(k:Int)<(n:Int):=qd;clear c0 c1 hx hlt';by_cases hX:uo au ⟨xi,xa⟩=true
   .obtain⟨g1,g2,g3,g4⟩:=zh.1 hX;have HN:Hid (okF xa (l.drop (k+1))=ah):=XAA (by rw [<-HK.out,HS.out,hX];rfl);simp only at g1 g2 g3 g4 d0 d1;clear hX;go_wp2;go_roundw
    case rel=>exact⟨k+1,xa,qd,qbf,R,HN,qa⟩
    case measure=>simp [intOf];omega
   .have hX':uo au ⟨xi,xa⟩=false:=by simpa using hX
    have HN:Hid (ah=false):=XAA (by rw [<-HK.out,HS.out,hX'];rfl);have hno:Hid (¬(0<=xi/\xi<=9007199254740991/\au<=xa/\xa<=9007199254740991)):=XAA (λh=>hX (zh.2 h));simp only at d0 d1;clear hX hX';by_cases g1:0<=xi
    .by_cases g2:xi<=9007199254740991
     .by_cases g3:au<=xa
      .have g4:¬xa<=9007199254740991:=λg4=>hno.out ⟨g1,g2,g3,g4⟩;go_wp2;go_ret;exact⟨qeg,qa⟩
      .go_wp2;go_ret;exact⟨qeg,qa⟩
     .go_wp2;go_ret;exact⟨qeg,qa⟩
    .go_wp2;go_ret;exact⟨qeg,qa⟩
  .have HN:Hid (ah=true):=XAA (by rw [<-HK.out,ZA (by rw [hn.out];omega)]);go_wp2;go_ret;exact⟨by rw [Na.out HN.out];(first|done|rfl),qa⟩
theorem check_nil(A:Option Addr)(c:Nat)(w:World):Z 185 #[.slice A 0 c] w λe w'=>e=.returned (I 0)/\Below w w w':=by
 go_enter func185,ntmps185;go_wp2
 go_rounds 1
 go_ret;exact⟨R,XAC _ _⟩
theorem check_big(A:Option Addr)(n c:Nat)(hn:256<n)(hn':n<=9223372036854775807)(w:World):Z 185 #[.slice A n c] w λe w'=>e=.returned (I 5)/\Below w w w':=by
 go_enter func185,ntmps185;go_wp2;go_ret;exact⟨R,XAC _ _⟩
theorem tS(l:List Wt)(A:Option Addr)(n c:Nat)(w:World)(hn:Hid (l.length=n))(hn':n<=9223372036854775807)(hA:dq w A l)(e:Int)(he:bY l=e):
  Z 185 #[.slice A n c] w λr w'=>r=.returned (I e)/\Below w w w':=by
 subst he;rcases XAr n with h0|hp
 .have hl:l= []:=XBN (hn.out.trans h0);subst hl h0;exact check_nil A c w
 .rcases XAc 256 n with hb|hs
  .rw [G6 (by rw [hn.out];exact hb)];exact check_big A n c hb hn' w
  .obtain⟨b,off,rfl,hbl,hc⟩:=hA (by rw [lU,hn.out];omega);exact RJ l b off c w n hn hs hbl hc

theorem info24:(prog.info? 233).map (λi=>(i.zero,i.size,i.bytes))=some (some (.agg #[I 0,I 0]),2,16):=qh
def Gives(w:World)(l:List Wt)(n:Nat)(e:Ending)(w':World):Prop:=∃v,e=.returned v/\w'.ownsRow w.heap.size 233 2 v n (di l)/\Below w w w'
theorem VA(w:World):Z 273 #[.slice none 0 0,I 0] w λe w'=>e=.returned (.slice none 0 0)/\w'=w:=by
 go_enter func273,ntmps273;go_wp2;go_ret;exact⟨R,R⟩
theorem Vz(n:Nat)(hn:0<n)(hn':n*16<=140737488355328)(w:World):Z 273 #[.slice none 0 0,I n] w λe w'=>
  ∃v,e=.returned v/\w'.ownsRow w.heap.size 233 2 v 0 []/\Below w w w':=by
 obtain⟨i0,hi,hz0,hz1,hz2⟩:=XA4 info24;have hrun:=XAA (Go.Lib.run_append_nil_zeros (P:=prog) w 230 3 230 233 i0 (.agg #[I 0,I 0]) .i64 .i64 XEO XAW hi hz0 n hn (by rw [hz1];omega) qd (by rw [hz2];omega));have hge:=grownCap_ge w n 0 233;have hle:=grownCap_le_maxLen w n 0 233 qw;obtain⟨C,hC⟩:=Xq (grownCap w n 0 233);rw [hC] at hrun hge hle;clear hC hi hz0 hz1 hz2;have j0:(0:Int)<(n:Int):=qd
 unfold maxLen at hle;go_enter func273,ntmps273;go_wp2_with (first|(at_builtin;refine Go.Lib.wpList_append_run _ R _ _ _ _ R _ _ R R _ _ hrun.out ?_));go_ret;exact⟨_,R,(XEP w _ C (XAB _) qw (by simp [size_zeroCells];omega)).drew,qa⟩
theorem Vy(n:Nat)(z:Int)(ez:(n:Int)=z)(hn':n*16<=140737488355328)(w:World):Z 273 #[.slice none 0 0,I z] w λe w'=>
  ∃v,e=.returned v/\w'.ownsRow w.heap.size 233 2 v 0 []/\Below w w w':=by
 subst ez;rcases XAr n with h0|hp
 .subst h0;exact(VA w).mono λe w' ⟨he,hw⟩=>⟨_,he,by rw [hw];exact XBk _ _ _ _,by rw [hw];exact XAC _ _⟩
 .exact Vz n hp hn' w
theorem RZ(l m:List Wt)(A B:Option Addr)(n k c d q:Nat)(w:World)(hn:Hid (l.length=n))(hk:Hid (m.length=k))(hs:(n+k)*16<=140737488355328)(hA:dq w A l)(hB:dq w B m)
 (q0:w.cell? (q,0)=some (.slice A n c))(q1:w.cell? (q,1)=some (.slice B k d)):
  Z 220 #[.slice (q,0) 2 2] w (Gives w (l++m) (n+k)):=by
 obtain⟨i0,hi,hz0,hz1,hz2⟩:=XA4 info24;have I0:=XAA hi;have I1:=XAA hz0;have I2:=XAA hz1;have I3:=XAA hz2;have HA:=XAA hA;have HB:=XAA hB;have Q0:=XAA q0;have Q1:=XAA q1;clear hi hz0 hz1 hz2 hA hB;go_enter func220,ntmps220;go_wp2;refine XCB 3 ?_;rw [XA3];go_wp2_with fail;rw [XA3];go_wp2_with fail;rw [XA3];go_wp2_with (first|(go_at_call 273;refine(Vy (n+k) _ qd hs _).mono ?_;rintro e w1 ⟨v1,rfl,ho1,hb1⟩));have z1:=hb1.size;have q0':=cell_below hb1 Q0.out;have q1':=cell_below hb1 Q1.out;have R1:=XAA (dq.reads (HA.out.below hb1) hn.out);have O1:=XAA ho1;clear q0 q1 ho1;refine XCB 3 ?_;rw [XA3];go_wp2_with (first|(at_builtin;refine uE _ R _ _ 230 R w.heap.size 233 i0 (.agg #[I 0,I 0]) 2 16 XEO I0.out I1.out I2.out I3.out R qf _ 0 [] R O1.out _ _ n _ (di l) R R1.out DW qw qd qd ?_;intro v2 w2 ho2 hg hq;clear hq));have hb2:=vi hb1 hg O1.out z1 (XAB _);have z2:=hb2.size;have DS:=cell_below hb2 Q1.out;have R2:=XAA (dq.reads (HB.out.below hb2) hk.out);have O2:=XAA ho2;clear q0' q1' ho2 hg R1;rw [XA3];go_wp2_with (first|(at_builtin;refine uE _ R _ _ 230 R w.heap.size 233 i0 (.agg #[I 0,I 0]) 2 16 XEO I0.out I1.out I2.out I3.out R qf _ (0+n) ([]++di l) R O2.out _ _ k _ (di m) R R2.out DW qw qd qd ?_;intro v3 w3 ho3 hg hq;clear hq));have hb3:=vi hb2 hg O2.out z2 (XAB _);have O3:=XAA ho3;clear DS ho3 hg R2;rw [XA3];go_wp2_with fail;go_ret;exact⟨_,R,by rw [aat];simpa using O3.out,hb3⟩
theorem zi{w:World}{base base':Nat}{e:TypeId}{size:Nat}{v:Value}{n:Nat}{xs:List Value}(h:w.ownsRow base e size v n xs)(hb:base'<=base):w.ownsRow base' e size v n xs:=by
 obtain⟨h1,h2⟩:=h;refine⟨h1,?_⟩;rcases h2 with h2|⟨g,cap,cur,h3,h4,h5,h6⟩
 .exact Or.inl h2
 .exact Or.inr ⟨g,cap,cur,h3,qd,h5,h6⟩
theorem dq.jP{w:World}{g:Nat}{t:TypeId}{x:Wt}(h:ak w g t #[I x.id,I x.at_]):dq w (some ⟨g,0,none⟩) [x]:=λ_=>
 ⟨g,0,R,h.lt,λj u hu=>by rw [XAV,h.cell,<-XBO];exact hu⟩
theorem DX(l m:List Wt)(A B:Option Addr)(n k c d:Nat)(w:World)(hn:Hid (l.length=n))(hk:Hid (m.length=k))(hs:(n+k)*16<=140737488355328)(hA:dq w A l)(hB:dq w B m):
  Z 186 #[.slice A n c,.slice B k d] w (Gives w (l++m) (n+k)):=by
 have HA:=XAA (hA.alloc (.cells #[.slice A n c,.slice B k d] 230));have HB:=XAA (hB.alloc (.cells #[.slice A n c,.slice B k d] 230));have q0:Hid ((w.alloc (.cells #[.slice A n c,.slice B k d] 230)).cell? (w.heap.size,0)=some (.slice A n c)):=XAA ((ak.new w 230 #[.slice A n c,.slice B k d]).cell 0);have q1:Hid ((w.alloc (.cells #[.slice A n c,.slice B k d] 230)).cell? (w.heap.size,1)=some (.slice B k d)):=XAA ((ak.new w 230 #[.slice A n c,.slice B k d]).cell 1);clear hA hB;go_enter func186,ntmps186;go_wp2_with (first|(go_at_call 220;refine(RZ l m A B n k c d w.heap.size _ hn hk hs HA.out HB.out q0.out q1.out).mono ?_;rintro e w1 ⟨v1,rfl,ho1,hb1⟩));go_ret;exact⟨_,R,zi ho1 ql,qa⟩
def Adds(w:World)(r:List Wt)(er:Int)(e:Ending)(w':World):Prop:=∃v,e=.returned (.tuple #[v,I er])/\w'.ownsRow w.heap.size 233 2 v r.length (di r)/\Below w w w'
theorem Vl(l:List Wt)(i a:Int)(A:Option Addr)(n c:Nat)(w:World)(hn:Hid (l.length=n))(hn':n<=9223372036854775807)(hA:dq w A l)(er:Int)(he:Hid (bY l=er))(h0:er≠0):
  Z 200 #[.slice A n c,.agg #[I i,I a]] w (Adds w [] er):=by
 have HA:=XAA (hA.alloc (.cells #[I i,I a] 233));have hne:(er !=0)=true:=XBP.2 h0;clear hA h0;go_enter func200,ntmps200;go_wp2_with (first|(go_at_call 185;refine(tS l A n c _ hn hn' HA.out er he.out).mono ?_;rintro e w1 ⟨rfl,hb1⟩))
 go_ret2
 exact⟨_,R,XBk _ _ _ _,qa⟩
theorem Pb(l:List Wt)(i a:Int)(A:Option Addr)(c:Nat)(w:World)(hn:Hid (l.length=256))(hA:dq w A l)(he:Hid (bY l=0)):
  Z 200 #[.slice A 256 c,.agg #[I i,I a]] w (Adds w [] 5):=by
 have HA:=XAA (hA.alloc (.cells #[I i,I a] 233));clear hA;go_enter func200,ntmps200;go_wp2_with (first|(go_at_call 185;refine(tS l A 256 c _ hn qd HA.out 0 he.out).mono ?_;rintro e w1 ⟨rfl,hb1⟩))
 go_ret2
 exact⟨_,R,XBk _ _ _ _,qa⟩
theorem FW(l:List Wt)(i a:Int)(A:Option Addr)(n c:Nat)(w:World)(hn:Hid (l.length=n))(hn':n<256)(hA:dq w A l)(he:Hid (bY l=0))(er:Int)(he2:Hid (bY (l++ [⟨i,a⟩])=er))(r:List Wt)(hr:Hid ((er=0/\r=l++ [⟨i,a⟩])\/(er≠0/\r= []))):
  Z 200 #[.slice A n c,.agg #[I i,I a]] w (Adds w r er):=by
 have HA:=XAA (hA.alloc (.cells #[I i,I a] 233));have hl:Hid ((l++ [(⟨i,a⟩:Wt)]).length=n+1):=XAA (by rw [XAZ,hn.out];rfl);have h1:Hid (List.length [(⟨i,a⟩:Wt)]=1):=XAA rfl;have h256:((n:Int)==256)=false:=qec
 clear hA;by_cases h0:er=0;all_goals first|(have hne:(er !=0)=false:=by rw [bne_eq_false_iff_eq];exact h0)|(have hne:(er !=0)=true:=XBP.2 h0)
 all_goals have H0:=XAA h0
 all_goals clear h0
 all_goals go_enter func200,ntmps200
 all_goals go_wp2_with (first|(go_at_call 185;with_reducible refine(tS l A n c _ hn qd HA.out 0 he.out).mono ?_;rintro e w1 ⟨rfl,hb1⟩;have hX:=(ak.new w 233 #[I i,I a]).below hb1;have hxc:=hX.cell;have hA1:=(HA.out.below hb1).alloc (.cells #[I i,I a] 233);have hB1:=dq.jP (x:=⟨i,a⟩) (ak.new w1 233 #[I i,I a]);have z1:=hb1.size;rw [XAT] at z1)|(go_at_call 186;refine(DX l [⟨i,a⟩] A _ n 1 c _ _ hn h1 qd hA1 hB1).mono ?_;rintro e w2 ⟨v2,rfl,ho2,hb2⟩;obtain⟨A2,c2,rfl,hc2,hr2⟩:=dq.slice ho2;have z2:=hb2.size;rw [XAT] at z2)|(go_at_call 185;with_reducible refine(tS (l++ [⟨i,a⟩]) A2 (n+1) c2 _ hl qd hr2 er he2.out).mono ?_;rintro e w3 ⟨rfl,hb3⟩))
 all_goals go_ret2
 .have hr':r=l++ [⟨i,a⟩]:=by
   rcases hr.out with⟨_,h⟩|⟨h,_⟩
   .exact h
   .exact absurd H0.out h
  subst hr';exact⟨_,by rw [H0.out];rfl,by rw [hl.out];exact own_below (zi ho2 qj) hb3,qa⟩
 .have hr':r= []:=by
   rcases hr.out with⟨h,_⟩|⟨_,h⟩
   .exact absurd h H0.out
   .exact h
  subst hr';exact⟨_,R,XBk _ _ _ _,qa⟩
theorem add_any(l:List Wt)(i a:Int)(A:Option Addr)(n c:Nat)(w:World)(hn:Hid (l.length=n))(hn':n<=9223372036854775807)(hA:dq w A l)(r:List Wt)(er:Int)(h:gJ l ⟨i,a⟩=(r,er)):
  Z 200 #[.slice A n c,.agg #[I i,I a]] w (Adds w r er):=by
 by_cases h0:bY l=0
 .by_cases h1:n=256
  .subst h1;rw [Bi h0 hn.out] at h;injection h with h2 h3;subst h2 h3;exact Pb l i a A c w hn hA (XAA h0)
  .have hl:=tC.1 h0;rw [hn.out] at hl;by_cases h2:bY (l++ [⟨i,a⟩])=0
   .rw [Bj h0 (by rw [hn.out];exact h1) h2] at h;injection h with h3 h4;subst h3 h4;exact FW l i a A n c w hn qd hA (XAA h0) 0 (XAA h2) _ (XAA (.inl ⟨R,R⟩))
   .rw [Bg h0 (by rw [hn.out];exact h1) h2] at h;injection h with h3 h4;subst h3 h4;exact FW l i a A n c w hn qd hA (XAA h0) 2 (XAA (SV (by rw [XAZ,hn.out];show n+1<=256;omega) h2)) _ (XAA (.inr ⟨qf,R⟩))
 .rw [Bh h0] at h;injection h with h2 h3;subst h2;exact Vl l i a A n c w hn hn' hA er (XAA h3) (by rw [<-h3];exact h0)

def mi(w:World)(B:Nat)(A:Option Addr)(l:List Wt):Prop:=0<l.length->∃g off,A=some ⟨g,off,none⟩/\B<=g/\g<w.heap.size/\(∀o,w.frozen? ⟨g,o,none⟩=false)/\∀j u,(di l)[j]? =some u->w.cell? (g,off+j)=some u
theorem mi.row{w:World}{B:Nat}{A:Option Addr}{l:List Wt}(h:mi w B A l):dq w A l:=λhp=>by
 obtain⟨g,off,e,-,hl,-,hc⟩:=h (by rw [lU] at hp;omega);exact⟨g,off,e,hl,hc⟩
theorem mi.below{w w':World}{B:Nat}{A:Option Addr}{l:List Wt}(h:mi w B A l)(hb:Below w w w'):mi w' B A l:=λhp=>by
 obtain⟨g,off,e,h1,hl,hf,hc⟩:=h hp;exact⟨g,off,e,h1,XAH hl hb.size,λo=>(hb.frozen (p:=⟨g,o,none⟩) hl).trans (hf o),λj u hu=>(hb.cell (p:=⟨g,off+j,none⟩) hl).trans (hc j u hu)⟩
def A_(w:World)(l:List Wt)(n K:Nat)(e:Ending)(w':World):Prop:=
 ∃v A c,e=.returned (.tuple #[v,.slice A (n-K) c,I 0])/\w'.ownsRow w.heap.size 3 1 v K (fw (mJ (l.take K)))/\mi w' w.heap.size A (l.drop K)/\n-K<=c/\Below w w w'
theorem WB{l:List Wt}{k:Nat}{x:Wt}(h:k<l.length)(hx:l[k]=x):fw (mJ (l.take (k+1)))=fw (mJ (l.take k))++ [I x.id]:=by
 rw [XDR h,hx];simp [fw,mJ]
theorem VB{w w':World}{v:Value}{base:Nat}{e:TypeId}{size n:Nat}{xs:List Value}{p:Addr}{u:Value}(a:World)(ho:a.ownsRow base e size v n xs)(hg:w.grownBy w' v.ownBlock)(hp:a.heap.size<=p.block)(hc:w.cell? p=some u):w'.cell? p=some u:=by
 refine(XAP (w:=w) (hg.block p.block (XCQ w p hc) ?_)).trans hc;intro h;have:=(ho.lt _ h.symm).2;omega
theorem abh(l:List Wt)(d:Int)(b off:Nat)(n c:Nat)(w:World)(hn:Hid (l.length=n))(hn':n<=256)(hA:dq w (some ⟨b,off,none⟩) l)(hbl:b<w.heap.size)(hcl:∀j u,(di l)[j]? =some u->w.cell? (b,off+j)=some u)(hp:0<n)(he:Hid (bY l=0))(K:Nat)(hK:fZ d l=K):
  Z 134 #[.slice (b,off) n c,I d] w (A_ w l n K):=by
 obtain⟨i0,hi,hz0,hz1,hz2⟩:=XA4 nP;have I0:=XAA hi;have I1:=XAA hz0;have I2:=XAA hz1;have I3:=XAA hz2;have HA:=XAA hA;have HC:=XAA hcl;have HK:=XAA hK;have h0:Hid (List.length ([]:List Wt)=0):=XAA rfl;have uS:Hid (∀w,dq w none []):=XAA (λw=>Row.nil w none);clear hi hz0 hz1 hz2 hA hcl hK;go_enter func134,ntmps134;go_wp2;go_step3;go_wp2_with (first|(go_at_call 185;refine(tS l _ n c _ hn qd HA.out 0 he.out).mono ?_;rintro e w1 ⟨rfl,hb1⟩;have hA1:=HA.out.below hb1)|(go_at_call 186;refine(DX l [] _ none n 0 c 0 _ hn h0 qd hA1 (uS.out _)).mono ?_;rintro e w2 ⟨v2,rfl,ho2,hb2⟩;rw [XDT,XB5] at ho2;obtain⟨g,C,rfl,hg1,hg2⟩:=ho2.form hp));have z1:=hb1.size;have z2:=hb2.size;have hcap:n<=C:=by
  rcases ho2.2 with⟨h,-⟩|⟨g',cap,cur,h,-,-,h2,-⟩
  .cases h
  .injection h with _ _ h;omega
 have fH:=XAA ho2;have hw2:Below w w w2:=qa
 have z3:=hw2.size;clear ho2 hA1 hb1 hb2;go_step3;go_wp2_with fail;go_loopw [4,5,19] (λt r j wr=>∃(k m D:Nat)(A5:Option Addr),k+m=n/\k+D=C/\j=I k/\r=.slice A5 m D/\(0<m->A5=some ⟨g,k*2,none⟩)/\wr.ownsRow w2.heap.size 3 1 t k (fw (mJ (l.take k)))/\Hid (k+fZ d (l.drop k)=K)/\Below w2 w2 wr) (λ_ _ j _=>n-(intOf j).toNat)
 case atStart=>exact⟨0,n,C,_,qd,qd,R,R,λ_=>rfl,XBk _ _ _ _,XAA (by rw [XAV];exact HK.out),XAC _ _⟩
 case round=>
  obtain⟨k,m,D,A5,hkm,hkD,rfl,rfl,Iy,hown,gy,hw⟩:=hrel;have hz:=hw.size;by_cases hlt:k<n
  .have hlt':k<l.length:=by rw [hn.out];exact hlt
   obtain⟨c0,c1⟩:=Eh HC.out hlt';obtain⟨x,hx⟩:=Xq (l[k]);have HX:=XAA hx;rw [hx] at c0 c1;obtain⟨xi,xa⟩:=x;simp only at c0 c1;have hbw:Below w w wr:=hw2.trans (hw.mono z3);have d0:=(hbw.cell (p:=⟨b,off+k*2,none⟩) hbl).trans c0;have d1:=(hbw.cell (p:=⟨b,off+k*2+1,none⟩) hbl).trans c1;have k0:(0:Int)<=(k:Int):=qd
   have k1:(k:Int)<(n:Int):=qd;have VF:=Iy qd;subst VF;clear c0 c1 hx Iy;by_cases hd:xa<=d
   .have EX:=XAA (Sf hlt' (by rw [HX.out];exact hd));have m0:(1:Int)<=(m:Int):=by omega
    have m1:(m:Int)<=(D:Int):=qd;have x0:(wr.alloc (.cells #[I xi,I xa] 233)).drew.cell? (wr.heap.size,0)=I xi:=(ak.new wr 233 #[I xi,I xa]).cell 0;have x1:(wr.alloc (.cells #[I xi,I xa] 233)).drew.cell? (wr.heap.size,1)=I xa:=(ak.new wr 233 #[I xi,I xa]).cell 1;have Fl:=XAA hown;clear hown;have hO:=((Fl.out.alloc (.cells #[I xi,I xa] 233)).alloc (.cells #[I xi] 3)).drew;have hR:=(Row.reads (n:=1) (Row.drew (Row.iR (ak.new2 wr (.cells #[I xi,I xa] 233) 3 #[I xi]))) R);have HO:=XAA hO;have HR:=XAA hR;clear hO hR;go_wp2;go_region_held3 (λw'=>w'.cell? (wr.heap.size,0)=I xi) (first|assumption|exact eT qm) (first|(refine LH _ rfl _ _ 25 rfl w2.heap.size 3 i0 (I 0) 1 8 XBl I0.out I1.out I2.out I3.out rfl qf _ k _ rfl HO.out _ (some ⟨wr.heap.size+1,0,none⟩) 1 1 [I xi] rfl HR.out (λu hu=>by simp at hu;subst hu;rfl) qw qd qbk ?_;intro v3 w3 ho3 hg3 hq3;clear hq3;have hb3:Below w2 w2 w3:=vi qa hg3 HO.out qbk qbk;have Ej:=VB wr Fl.out hg3 (p:=⟨wr.heap.size,0,none⟩) qbk (eT (o:=(.cells #[I xi] 3)) x0)));have HS:=XAA (WB hlt' HX.out);rw [<-HS.out] at ho3;have MU:Hid (k+1+fZ d (l.drop (k+1))=K):=XAA (by have h1:=gy.out;have h2:=EX.out;omega);have HM:Hid (∀h:0<m-1,(if D=1 then some (⟨g,k*2,none⟩:Addr) else some ⟨g,k*2+2,none⟩)=some ⟨g,(k+1)*2,none⟩):=XAA (λh=>by rw [XAD qd,show k*2+2=(k+1)*2 from qd]);clear x0 x1 Ej hg3 EX HS;go_wp2;go_roundw
    case rel=>exact⟨k+1,m-1,D-1,_,qd,qd,qbf,R,HM.out,ho3,MU,hb3⟩
    case measure=>simp [intOf];omega
   .have AH:Hid (K=k):=XAA (by have h1:=gy.out;rw [Sg hlt' (by rw [HX.out];show d<xa;omega)] at h1;omega);go_wp2;try rw [XCU]
    go_ret3;have CA:=AH.out;subst CA;have hbx:Below w2 w2 (wr.alloc (.cells #[I xi,I xa] 233)):=qa
    refine⟨_,some ⟨g,K*2,none⟩,D,?_,own_below (zi hown z3) qa,?_,qd,qa⟩
    .rw [show n-K=m from qd];rfl
    .exact λ_=>⟨g,K*2,R,qd,qbk,λo=>(hbx.frozen (p:=⟨g,o,none⟩) hg2).trans (fH.out.frozenAt o),λj u hu=>by
       rw [Ln,XDU] at hu
       exact(hbx.cell (p:=⟨g,K*2+j,none⟩) hg2).trans (by have:=fH.out.cells (g:=g) R _ u hu;rwa [addr_add,XAV] at this)⟩
  .have AH:Hid (K=n):=XAA (by have h1:=gy.out;rw [Se (by rw [hn.out];omega)] at h1;omega);have hm0:m=0:=by omega
   have hkn:k=n:=qd;subst hm0 hkn;go_wp2;try rw [XCU]
   go_ret3;have CA:=AH.out;subst CA;refine⟨_,A5,D,?_,zi hown z3,?_,qd,qa⟩
   .rw [XDL];rfl
   .intro h;rw [XB6,hn.out] at h;omega
theorem ready_nil(d:Int)(A:Option Addr)(c:Nat)(w:World):Z 134 #[.slice A 0 c,I d] w (A_ w [] 0 0):=by
 have uS:Hid (∀(w:World)(A:Option Addr),dq w A []):=XAA (λw A=>Row.nil w A);have h0:Hid (List.length ([]:List Wt)=0):=XAA rfl;have e0:Hid (bY []=0):=XAA rfl;go_enter func134,ntmps134;go_wp2;go_step3;go_wp2_with (first|(go_at_call 185;refine(tS [] _ 0 c _ h0 qd (uS.out _ _) 0 e0.out).mono ?_;rintro e w1 ⟨rfl,hb1⟩)|(go_at_call 186;refine(DX [] [] _ none 0 0 c 0 _ h0 h0 qd (uS.out _ _) (uS.out _ _)).mono ?_;rintro e w2 ⟨v2,rfl,ho2,hb2⟩;obtain⟨A2,c2,rfl,hc2,-⟩:=dq.slice (l:= []) ho2));go_step3;go_wp2_with fail;refine XCB 1 ?_;rw [XA3];go_wp2;try rw [XCU]
 go_ret3;exact⟨_,A2,c2,R,XBk _ _ _ _,λh=>absurd h (XDP 0),hc2,qa⟩
theorem mi.gj{w:World}{B:Nat}{A:Option Addr}{l:List Wt}{n c:Nat}(h:w.ownsRow B 233 2 (.slice A n c) n (di l))(hl:l.length=n):mi w B A l:=λhp=>by
 obtain⟨g,cap,hv,hb,hlt⟩:=h.form qd;have hA:A=some ⟨g,0,none⟩:=by injection hv
 subst hA;exact⟨g,0,R,hb,hlt,λo=>h.frozenAt o,λj u hu=>by have:=h.cells (g:=g) R j u hu;rwa [addr_add] at this⟩
theorem aaS(l:List Wt)(d:Int)(A:Option Addr)(n c:Nat)(w:World)(hn:Hid (l.length=n))(hA:dq w A l)(he:Hid (bY l=0))(K:Nat)(hK:fZ d l=K):
  Z 134 #[.slice A n c,I d] w (A_ w l n K):=by
 have h256:=(tC.1 he.out).1;rw [hn.out] at h256;rcases XAr n with h0|hp
 .have hl:l= []:=XBN (hn.out.trans h0);subst hl h0;obtain rfl:0=K:=hK;exact ready_nil d A c w
 .obtain⟨b,off,rfl,hb,hc⟩:=hA (by rw [lU,hn.out];omega);exact abh l d b off n c w hn h256 hA hb hc hp he K hK
theorem Kr(a0 a1 a2 a3 a4 a5 a6 a7:Bool)(w:World):
  (binOp .neq 119 (.agg #[.bool a0,.bool a1,.bool a2,.bool a3,.bool a4,.bool a5,.bool a6,.bool a7]) (.agg #[.bool false,.bool false,.bool false,.bool false,.bool false,.bool false,.bool false,.bool false])).run prog w
   =.ok (.bool (a0||a1||a2||a3||a4||a5||a6||a7)) w:=by
 cases a0<;>cases a1<;>cases a2<;>cases a3<;>cases a4<;>cases a5<;>cases a6<;>cases a7<;>kernel_rfl
theorem PD(f:Nat->Bool):fK f 8=(f 0||f 1||f 2||f 3||f 4||f 5||f 6||f 7):=by
 simp [fK]
theorem Zf{G:Gr}(hI:Inv G):sm G=fK G.N 8:=by
 cases h:fK G.N 8
 .exact Bp λk hk=>tw h k qgn
 .cases h2:sm G
  .rw [Bp (f:=G.N) (n:=8) (λk _=>by
    rcases XAc k G.C with h1|h1
    .exact tw h2 k h1
    .exact hI.o k h1)] at h
   cases h
  .rfl
theorem Zg{w:World}{b:Nat}{gs:List Nat}{G:Gr}(h:aN w b gs G):w.cell? (b,19)=some (.bool (G.N 0))/\w.cell? (b,20)=some (.bool (G.N 1))/\w.cell? (b,21)=some (.bool (G.N 2))/\w.cell? (b,22)=some (.bool (G.N 3))/\
  w.cell? (b,23)=some (.bool (G.N 4))/\w.cell? (b,24)=some (.bool (G.N 5))/\w.cell? (b,25)=some (.bool (G.N 6))/\w.cell? (b,26)=some (.bool (G.N 7)):=
 ⟨h.needs (k:=0) qd,h.needs (k:=1) qd,h.needs (k:=2) qd,h.needs (k:=3) qd,h.needs (k:=4) qd,h.needs (k:=5) qd,h.needs (k:=6) qd,h.needs (k:=7) qd⟩
section
variable{b:Nat}{gs:List Nat}{G:Gr}
theorem Ze(hI:Inv G)(k:Nat)(hg:G.go=false):jO G k=G:=by
 have h:cT G.N k false=G.N:=by
  funext j;by_cases e:j=k
  .subst e;rw [upd_same,hI.n hg j]
  .rw [upd_ne _ _ e]
 unfold jO;rw [h]
theorem Z9(w:World)(h:aN w b gs G)(hI:Inv G)(hE:G.ag<=1000000)(k:Nat)(hk:k<G.C):Z 63 #[(b,0),I k] w λe w'=>
  e=.returned (I (fR G k).2)/\aN w' b gs (fR G k).1/\One b w w':=by
 have HG:=XAA h;have HI:=XAA hI;have hz:Hid (kF G.C k=0):=XAA (rD ⟨qd,qd⟩);have hk8:k<8:=qgn
 have c1:=h.deep hk8;have f1:=h.frz (19+k);have cN:=h.needs hk8;obtain⟨d1,d2⟩:=hI.d k;have hl:=h.lt;have k0:(0:Int)<=(k:Int):=qd
 have k1:(k:Int)<8:=qd;by_cases h8:0<G.D k
 .have e0:fR G k=(G,292):=by unfold fR;rw [XAR h8];rfl
  rw [e0];obtain⟨d,hd⟩:=Xq (G.D k);rw [hd] at c1 h8;clear h hI hk d1 d2 e0 hd;go_enter func63,ntmps63;go_wp2_with (first|(go_at_call 87;refine Xr (gN _ b gs G HG.out HI.out k) ?_;rw [hz.out]));go_ret;exact⟨R,HG.out,One.refl _ _⟩
 .have hd:G.D k=0:=by omega
  rw [hd] at c1;obtain⟨G1,hG1⟩:=Xq (jO G k);have HS:=XAA (h.Ly hk8 false);have hS1:aN (w.setCell (b,19+k) (.bool false)) b gs G1:=by rw [<-hG1];exact HS.out
  have fU:=XAA hS1;have hI1:Inv G1:=by rw [<-hG1];exact hI.need
  have hgo:G1.go=G.go:=by rw [<-hG1];rfl
  have hE1:G1.ag=G.ag:=by rw [<-hG1];rfl
  have HT:=XAA ((One.refl b w).set (19+k) (.bool false));have c2:=hS1.going;obtain⟨p0,p1,p2,p3,p4,p5,p6,p7⟩:=Zg hS1;have q2:=Kr;have HN:=XAA (Zf hI1);have xk:=XAA (PD G1.N);rw [hgo] at c2;cases hg:G.go
  .have e0:fR G k=(G1,0):=by
    unfold fR;rw [XAS h8,hg,<-hG1,Ze hI k hg];rfl
   rw [e0];rw [hg] at c2;clear h hI hk d1 d2 e0 hd h8 hg hG1 HS hS1 hI1 hgo HN xk q2 p0 p1 p2 p3 p4 p5 p6 p7;go_enter func63,ntmps63;go_wp2_with (first|(go_at_call 87;refine Xr (gN _ b gs G HG.out HI.out k) ?_;rw [hz.out]));go_ret;exact⟨R,fU.out,HT.out⟩
  .rw [hg] at c2;cases hn:sm G1
   .have ox:Hid (∀j,j<8->G1.N j=false):=XAA (tw (by rw [<-HN.out,hn]));rw [ox.out 0 qd] at p0;rw [ox.out 1 qd] at p1;rw [ox.out 2 qd] at p2;rw [ox.out 3 qd] at p3;rw [ox.out 4 qd] at p4;rw [ox.out 5 qd] at p5;rw [ox.out 6 qd] at p6;rw [ox.out 7 qd] at p7;have HX:=XAA ((hS1.zT false).abm (G1.ag+1));have oG:=XAA (show aN _ b gs (mz G1) from HX.out);have cE:=hS1.ended;have f17:=hS1.frz 17;have f18:=hS1.frz 18;have Rm:((w.setCell (b,19+k) (.bool false)).setCell (b,18) (.bool false)).cell? (b,17)=I G1.ag:=(hS1.zT false).ended;have ady:((w.setCell (b,19+k) (.bool false)).setCell (b,18) (.bool false)).frozen? (b,17)=false:=(hS1.zT false).frz 17;have HI2:=XAA (hI1.end_ hn);have HT2:=XAA (((HT.out.set 18 (.bool false)).set 17 (I ((G1.ag+1:Nat):Int))));rw [<-hE1] at hE;obtain⟨ag,hEE⟩:=Xq G1.ag;rw [hEE] at cE Rm hE oG HT2;have sO:IntKind.i64.wrap ((ag:Int)+1)=(ag:Int)+1:=XAM _ qd;rw [show((ag+1:Nat):Int)=(ag:Int)+1 from qd] at oG HT2;obtain⟨r,hr⟩:=Xq (ue (mz G1));have HR:=XAA hr;have e0:fR G k=(bif r then rE (mz G1) else mz G1,0):=by
     unfold fR;rw [XAS h8,hg,hG1,hn,hr];cases r<;>rfl
    rw [e0];clear h hI hk d1 d2 e0 hd h8 hg hG1 HS hS1 hI1 hgo HN xk hn HX hr hE1 hEE;cases r;all_goals
     go_enter func63,ntmps63;go_wp2_with (first|(go_at_call 87;refine Xr (gN _ b gs G HG.out HI.out k) ?_;rw [hz.out])|(go_at_call 88;refine(abf _ oG.out HI2.out).mono ?_;rintro e w1 ⟨rfl,hb1⟩;rw [HR.out];have xK:=XAA (oG.out.below hb1);have HT3:=XAA (HT2.out.trans (One.of_below b hb1)))|(go_at_call 89;refine(BB _ xK.out HI2.out).mono ?_;rintro e w2 ⟨rfl,hN,yH⟩));go_ret;first|exact⟨R,xK.out,HT3.out⟩|exact⟨R,hN,HT3.out.trans yH⟩
   .have e0:fR G k=(G1,0):=by
     unfold fR;rw [XAS h8,hg,hG1,hn];rfl
    rw [e0];have hor:=xk.out;rw [<-HN.out,hn] at hor;obtain⟨a0,h0⟩:∃a,G1.N 0=a:=⟨_,R⟩;obtain⟨a1,h1⟩:∃a,G1.N 1=a:=⟨_,R⟩;obtain⟨a2,h2⟩:∃a,G1.N 2=a:=⟨_,R⟩;obtain⟨a3,h3⟩:∃a,G1.N 3=a:=⟨_,R⟩;obtain⟨a4,h4⟩:∃a,G1.N 4=a:=⟨_,R⟩;obtain⟨a5,h5⟩:∃a,G1.N 5=a:=⟨_,R⟩;obtain⟨a6,h6⟩:∃a,G1.N 6=a:=⟨_,R⟩;obtain⟨a7,h7⟩:∃a,G1.N 7=a:=⟨_,R⟩;rw [h0,h1,h2,h3,h4,h5,h6,h7] at hor;rw [h0] at p0;rw [h1] at p1;rw [h2] at p2;rw [h3] at p3;rw [h4] at p4;rw [h5] at p5;rw [h6] at p6;rw [h7] at p7;have q3:∀w,(binOp .neq 119 (.agg #[.bool a0,.bool a1,.bool a2,.bool a3,.bool a4,.bool a5,.bool a6,.bool a7]) (.agg #[.bool false,.bool false,.bool false,.bool false,.bool false,.bool false,.bool false,.bool false])).run prog w=.ok (.bool true) w:=λw=>by rw [Kr,<-hor]
    clear h hI hk d1 d2 e0 hd h8 hg hG1 HS hS1 hI1 hgo HN xk hn hE1 q2 hor h0 h1 h2 h3 h4 h5 h6 h7;go_enter func63,ntmps63;go_wp2_with (first|(go_at_call 87;refine Xr (gN _ b gs G HG.out HI.out k) ?_;rw [hz.out]));go_ret;exact⟨R,fU.out,HT.out⟩
end
theorem ed.of_rest{w w':World}{gs:List Nat}{A:Option Addr}{n c:Nat}{l:List Wt}(h:mi w' w.heap.size A l)(hg:∀g∈gs,g<w.heap.size)(hl:l.length=n)(hc:n<=c):ed w' gs A n c l:=
 ⟨hl,hc,h.row,λhn g off e hm=>by
  obtain⟨g',off',e',h1,-⟩:=h qd
  rw [e] at e'
  injection e' with e2
  injection e2 with e3
  have:=hg g hm
  omega⟩
theorem ed.gj{w w':World}{gs:List Nat}{v:Value}{l:List Wt}(h:w'.ownsRow w.heap.size 233 2 v l.length (di l))(hg:∀g∈gs,g<w.heap.size):∃A c,v=.slice A l.length c/\ed w' gs A l.length c l:=by
 obtain⟨A,c,rfl,hc,-⟩:=dq.slice h;exact⟨A,c,R,ed.of_rest (mi.gj h R) hg R hc⟩
section
variable{b:Nat}{gs:List Nat}{G:Gr}
theorem Rq{k:Nat}{i:Int}(h:i<0\/9007199254740991<i):iK G k i=(G,2):=by unfold iK;rw [XAR h];rfl
theorem Rr{k:Nat}{i:Int}(h:¬(i<0\/9007199254740991<i))(h2:(G.L k).length=256):iK G k i=(G,5):=by unfold iK;rw [XAS h,XAR h2];rfl
theorem Rs{k:Nat}{i:Int}(h:¬(i<0\/9007199254740991<i))(h2:(G.L k).length≠256){G1:Gr}{a:Int}(hc:fo G=(G1,a)){r:List Wt}{er:Int}(ha:gJ (G.L k) ⟨i,a⟩=(r,er)):iK G k i=nY G1 k (r,er):=by
 unfold iK;rw [XAS h,XAS h2,hc];show nY G1 k (gJ (G.L k) ⟨i,a⟩)=_;rw [ha]
theorem Lg{k:Nat}{r:List Wt} :nY G k (r,0)=({ G with L:=cT G.L k r },0):=rfl
theorem Le{k:Nat}{r:List Wt}{er:Int}(h:er≠0):nY G k (r,er)=(G,er):=by unfold nY;rw [XAS h];rfl
theorem O7{l r:List Wt}{x:Wt}{e:Int}(h:gJ l x=(r,e))(h0:e≠0):r= []:=by
 by_cases h1:bY l=0
 .by_cases h2:l.length=256
  .rw [Bi h1 h2] at h;injection h with h3 _;exact h3.symm
  .by_cases h3:bY (l++ [x])=0
   .rw [Bj h1 h2 h3] at h;injection h with _ h4;exact absurd h4.symm h0
   .rw [Bg h1 h2 h3] at h;injection h with h3 _;exact h3.symm
 .rw [Bh h1] at h;injection h with h3 _;exact h3.symm
theorem Rv(w:World)(h:aN w b gs G)(hI:Inv G)(hE:G.ag<=1000000)(k:Nat)(hk:k<G.C)(i:Int):Z 151 #[(b,0),I k,I i] w λe w'=>
  e=.returned (I (iK G k i).2)/\aN w' b gs (iK G k i).1/\One b w w':=by
 have HG:=XAA h;have HI:=XAA hI;have hz:Hid (kF G.C k=0):=XAA (rD ⟨qd,qd⟩);have hk8:k<8:=qgn
 have hl:=h.lt;have h256:=(tC.1 (hI.l k)).1;have k0:(0:Int)<=(k:Int):=qd
 have k1:(k:Int)<8:=qd;by_cases hi:i<0\/9007199254740991<i
 .rw [Rq hi];rcases (by omega:i<0\/(¬i<0/\9007199254740991<i)) with h1|⟨h1,h2⟩
  all_goals
   clear h hI hk hi;go_enter func151,ntmps151;go_wp2_with (first|(go_at_call 87;refine Xr (gN _ b gs G HG.out HI.out k) ?_;rw [hz.out])|(go_at_call 133;refine(pR _ b gs G HG.out k hk8).mono ?_;rintro e wq ⟨A,n,c,rfl,hR,hwq⟩;replace hwq:=hwq.symm;subst hwq));go_ret;exact⟨R,HG.out,One.refl _ _⟩
 .have i1:¬i<0:=λe=>hi (.inl e);have i2:¬9007199254740991<i:=λe=>hi (.inr e);by_cases h2:(G.L k).length=256
  .rw [Rr hi h2];have H2:=XAA h2;clear h hI hk hi h256 h2;go_enter func151,ntmps151;go_wp2_with (first|(go_at_call 87;refine Xr (gN _ b gs G HG.out HI.out k) ?_;rw [hz.out])|(go_at_call 133;refine(pR _ b gs G HG.out k hk8).mono ?_;rintro e wq ⟨A,n,c,rfl,hR,hwq⟩;replace hwq:=hwq.symm;subst hwq;obtain rfl:n=256:=hR.len.symm.trans H2.out));go_ret;exact⟨R,HG.out,One.refl _ _⟩
  .obtain⟨r,er,ha⟩:∃r er,gJ (G.L k) ⟨i,(fo G).2⟩=(r,er):=⟨_,_,R⟩;have e0:=Rs hi h2 (G1:=(fo G).1) (a:=(fo G).2) R ha;rw [e0];have c1:=h.ended;have c2:=h.going;have hI1:=XAA (hI.cal);have hr0:=XAA (λh0=>O7 ha h0);have xj:Hid ((G.L k).length<=256/\(G.L k).length≠256):=XAA ⟨h256,h2⟩;obtain⟨ag,hEE⟩:=Xq G.ag;have HB:=XAA (hI.BA);cases hg:G.go
   .have vM:fo G=(rE G,(ag:Int)+1):=by unfold fo;rw [hg,hEE];rfl
    rw [vM] at ha ⊢;have HA:=XAA ha;rw [hg] at c2;rw [hEE] at c1 hE;have uC:IntKind.i64.wrap ((ag:Int)+1)=(ag:Int)+1:=XAM _ qd;clear h hI hk hi h256 h2 e0 vM hg hEE hI1 ha;by_cases h0:er=0
    .subst h0;rw [Lg];clear hr0;go_enter func151,ntmps151;go_wp2_with (first|(go_at_call 87;refine Xr (gN _ b gs G HG.out HI.out k) ?_;rw [hz.out])|(go_at_call 133;refine(pR _ b gs G HG.out k hk8).mono ?_;rintro e wq ⟨A,n,c,rfl,hR,hwq⟩;replace hwq:=hwq.symm;subst hwq;have hn:=xj.out;rw [hR.len] at hn;obtain⟨hn1,hn2⟩:=hn;have hn3:((n:Int)==256)=false:=XAf.2 qd)|(go_at_call 89;refine(BB _ HG.out HI.out).mono ?_;rintro e w2 ⟨rfl,hN,hT⟩;have HN:=XAA hN;have HT:=XAA hT;have HR:=XAA (hR.one hT HG.out.mem);have hl2:=hN.lt;clear hN hT)|(go_at_call 200;refine(add_any (G.L k) i ((ag:Int)+1) A n c _ (XAA HR.out.len) qd HR.out.row r 0 HA.out).mono ?_;rintro e w3 ⟨v,rfl,ho,hb3⟩;obtain⟨A3,c3,rfl,mG⟩:=ed.gj ho HN.out.bj;have eb:=XAA (HN.out.below hb3);have f3:=eb.out.frz (9+k);obtain⟨vv,c93,-⟩:=eb.out.rows hk8));go_ret;exact⟨R,eb.out.setRow hk8 mG,(HT.out.trans (One.of_below b hb3)).set _ _⟩
    .rw [Le h0];have hne:(er==0)=false:=XAf.2 h0;obtain rfl:r= []:=hr0.out h0;clear hr0 h0;go_enter func151,ntmps151;go_wp2_with (first|(go_at_call 87;refine Xr (gN _ b gs G HG.out HI.out k) ?_;rw [hz.out])|(go_at_call 133;refine(pR _ b gs G HG.out k hk8).mono ?_;rintro e wq ⟨A,n,c,rfl,hR,hwq⟩;replace hwq:=hwq.symm;subst hwq;have hn:=xj.out;rw [hR.len] at hn;obtain⟨hn1,hn2⟩:=hn;have hn3:((n:Int)==256)=false:=XAf.2 qd)|(go_at_call 89;refine(BB _ HG.out HI.out).mono ?_;rintro e w2 ⟨rfl,hN,hT⟩;have HN:=XAA hN;have HT:=XAA hT;have HR:=XAA (hR.one hT HG.out.mem);have hl2:=hN.lt;clear hN hT)|(go_at_call 200;refine(add_any (G.L k) i ((ag:Int)+1) A n c _ (XAA HR.out.len) qd HR.out.row [] er HA.out).mono ?_;rintro e w3 ⟨v,rfl,ho,hb3⟩;have eb:=XAA (HN.out.below hb3)));go_ret;exact⟨R,eb.out,(HT.out.trans (One.of_below b hb3))⟩
   .have vM:fo G=(G,(ag:Int)+2):=by unfold fo;rw [hg,hEE];rfl
    rw [vM] at ha ⊢;have HA:=XAA ha;rw [hg] at c2;rw [hEE] at c1 hE;have uC:IntKind.i64.wrap ((ag:Int)+1)=(ag:Int)+1:=XAM _ qd;have L7:IntKind.i64.wrap ((ag:Int)+1+1)=(ag:Int)+2:=(XAM _ qd).trans qd;clear h hI hk hi h256 h2 e0 vM hg hEE hI1 ha;by_cases h0:er=0
    .subst h0;rw [Lg];clear hr0;go_enter func151,ntmps151;go_wp2_with (first|(go_at_call 87;refine Xr (gN _ b gs G HG.out HI.out k) ?_;rw [hz.out])|(go_at_call 133;refine(pR _ b gs G HG.out k hk8).mono ?_;rintro e wq ⟨A,n,c,rfl,hR,hwq⟩;replace hwq:=hwq.symm;subst hwq;have hn:=xj.out;rw [hR.len] at hn;obtain⟨hn1,hn2⟩:=hn;have hn3:((n:Int)==256)=false:=XAf.2 qd;have HR:=XAA hR)|(go_at_call 200;refine(add_any (G.L k) i ((ag:Int)+2) A n c _ (XAA HR.out.len) qd HR.out.row r 0 HA.out).mono ?_;rintro e w3 ⟨v,rfl,ho,hb3⟩;obtain⟨A3,c3,rfl,mG⟩:=ed.gj ho HG.out.bj;have eb:=XAA (HG.out.below hb3);have f3:=eb.out.frz (9+k);obtain⟨vv,c93,-⟩:=eb.out.rows hk8));go_ret;exact⟨R,eb.out.setRow hk8 mG,(One.of_below b hb3).set _ _⟩
    .rw [Le h0];have hne:(er==0)=false:=XAf.2 h0;obtain rfl:r= []:=hr0.out h0;clear hr0 h0;go_enter func151,ntmps151;go_wp2_with (first|(go_at_call 87;refine Xr (gN _ b gs G HG.out HI.out k) ?_;rw [hz.out])|(go_at_call 133;refine(pR _ b gs G HG.out k hk8).mono ?_;rintro e wq ⟨A,n,c,rfl,hR,hwq⟩;replace hwq:=hwq.symm;subst hwq;have hn:=xj.out;rw [hR.len] at hn;obtain⟨hn1,hn2⟩:=hn;have hn3:((n:Int)==256)=false:=XAf.2 qd;have HR:=XAA hR)|(go_at_call 200;refine(add_any (G.L k) i ((ag:Int)+2) A n c _ (XAA HR.out.len) qd HR.out.row [] er HA.out).mono ?_;rintro e w3 ⟨v,rfl,ho,hb3⟩;have eb:=XAA (HG.out.below hb3)));go_ret;exact⟨R,eb.out,One.of_below b hb3⟩
theorem ZY(w:World)(h:aN w b gs G)(hI:Inv G)(k:Nat)(hk:k<G.C):Z 90 #[(b,0),I k] w λe w'=>
  ∃A c,e=.returned (.tuple #[.slice A (polled G k).length c,I 0])/\w'.ownsRow w.heap.size 3 1 (.slice A (polled G k).length c) (polled G k).length (fw (polled G k))/\aN w' b gs (sv G k)/\One b w w':=by
 have HG:=XAA h;have HI:=XAA hI;have hz:Hid (kF G.C k=0):=XAA (rD ⟨qd,qd⟩);have hk8:k<8:=qgn
 have hl:=h.lt;have c1:=h.ended;have HE:=XAA (hI.l k);have k0:(0:Int)<=(k:Int):=qd
 have k1:(k:Int)<8:=qd;have HP:Hid (polled G k=mJ ((G.L k).take (fZ G.ag (G.L k)))):=XAA rfl;have HQ:Hid (sv G k= { G with L:=cT G.L k ((G.L k).drop (fZ G.ag (G.L k))) }):=XAA rfl;obtain⟨ag,hEE⟩:=Xq G.ag;obtain⟨K,hK⟩:=Xq (fZ ag (G.L k));rw [hEE] at c1 HP HQ;rw [hK] at HP HQ;have HK:=XAA hK;have Np:Hid (K<=(G.L k).length):=XAA (by rw [<-hK];exact GX _ _);clear h hI hk hEE hK;go_enter func90,ntmps90;go_wp2_with (first|(go_at_call 87;refine Xr (gN _ b gs G HG.out HI.out k) ?_;rw [hz.out]));go_region_held3 (λw'=>w'.cell? (b,17)=I ag) (assumption) (first|(go_at_call 133;refine(pR _ b gs G (HG.out.below qa) k hk8).mono ?_;rintro e wq ⟨A,n,c,rfl,hR,hwq⟩;replace hwq:=hwq.symm;subst hwq)|(go_at_call 134;refine(aaS (G.L k) ag A n c _ (XAA hR.len) hR.row HE.out K HK.out).mono ?_;rintro e w3 ⟨v,A3,c3,rfl,ho,hrest,hc3,hb3⟩;have y1:=(hb3.cell (p:=⟨b,17,none⟩) hl).trans c1;have eb:=XAA (HG.out.drew.below hb3);have f3:=eb.out.frz (9+k);obtain⟨vv,c93,-⟩:=eb.out.rows hk8;have HR3:=XAA (ed.of_rest hrest HG.out.drew.bj (n:=n-K) (by rw [XB6,hR.len]) hc3);have HO:=XAA ho;have HT:=XAA ((One.refl b w).drew.trans (One.of_below b hb3))));all_goals go_wp2
 all_goals go_ret2
 have gU:=RowKit.ownsRow_setCell_below HO.out (a:=⟨b,9+k,none⟩) (show b<w.drew.heap.size from hl) (.iface 230 (.slice A3 (n-K) c3));obtain⟨A4,c4,rfl,-⟩:=Row.slice gU;have hlen:(polled G k).length=K:=by rw [HP.out];unfold mJ;rw [XAY,XBV];have:=Np.out;omega
 refine⟨A4,c4,by rw [hlen];rfl,by rw [hlen,HP.out];exact gU,?_,HT.out.set _ _⟩;have h5:=eb.out.setRow hk8 HR3.out;rw [HQ.out];have e5:G.ag=ag:=by have h6:=HG.out.ended;rw [c1] at h6;injection h6 with h7;injection h7 with _ h8;omega
 rw [<-e5];exact h5
end
def aG(w:World)(g:Nat)(e:TypeId)(vs:List Value):Prop:=∃cur,ak w g e cur/\cur.toList.take vs.length=vs
section
variable{w w':World}{g:Nat}{e:TypeId}{vs:List Value}
theorem aG.lt(h:aG w g e vs):g<w.heap.size:=by obtain⟨cur,h1,-⟩:=h;exact h1.lt
theorem aG.cell(h:aG w g e vs)(k:Nat)(u:Value)(hk:vs[k]? =some u):w.cell? (g,k)=some u:=by
 obtain⟨cur,h1,h2⟩:=h;rw [h1.cell,<-XBO];have hkl:k<vs.length:=(XDZ.1 hk).1;rw [<-h2,XDa hkl] at hk;exact hk
theorem aG.frz(h:aG w g e vs)(k:Nat):w.frozen? (g,k)=false:=by obtain⟨cur,h1,-⟩:=h;exact h1.frozen k
theorem aG.below(h:aG w g e vs)(hb:Below w w w'):aG w' g e vs:=by obtain⟨cur,h1,h2⟩:=h;exact⟨cur,h1.below hb,h2⟩
theorem aG.heap(h:aG w g e vs)(hb:w'.heap[g]? =w.heap[g]?):aG w' g e vs:=by obtain⟨cur,h1,h2⟩:=h;exact⟨cur,hb.trans h1,h2⟩
theorem aG.alloc(h:aG w g e vs)(o:Obj):aG (w.alloc o) g e vs:=by obtain⟨cur,h1,h2⟩:=h;exact⟨cur,h1.alloc o,h2⟩
theorem aG.far(h:aG w g e vs){p:Addr}(hp:g≠p.block)(u:Value):aG (w.setCell p u) g e vs:=by obtain⟨cur,h1,h2⟩:=h;exact⟨cur,h1.far hp u,h2⟩
theorem aG.set(h:aG w g e vs)(k:Nat)(u:Value):aG (w.setCell (g,k) u) g e (vs.set k u):=by
 obtain⟨cur,h1,h2⟩:=h;refine⟨_,h1.aJ k u,?_⟩;rw [Array.toList_setIfInBounds,XAk,List.take_set,h2]
theorem aG.ne{g':Nat}{e':TypeId}{vs':List Value}(h:aG w g e vs)(h':aG w g' e' vs')(he:e≠e'):g≠g':=λeq=>by
 subst eq;obtain⟨cur,h1,-⟩:=h;obtain⟨cur',h2,-⟩:=h';unfold ak at h1 h2;rw [h1] at h2;simp at h2;exact he h2.2
theorem aG.gj{base n:Nat}{v:Value}(h:w.ownsRow base e 1 v n vs)(hl:vs.length=n)(hn:0<n):∃g c,v=.slice (g,0) n c/\n<=c/\base<=g/\aG w g e vs:=by
 rcases h.2 with⟨-,h0⟩|⟨g,cap,cur,hv,hg,h2,h3,-,h4,h5⟩
 .omega
 .exact⟨g,cap,hv,qd,hg,cur,h2,by rw [hl];simpa using h5⟩
end
theorem aG.jP{w:World}{g:Nat}{e:TypeId}{cs:Array Value}(h:ak w g e cs):aG w g e cs.toList:=⟨cs,h,List.take_length⟩
structure Rws(gs:List Nat)(w w':World):Prop where
 os:w'.os=w.os
 tape:w'.tape=w.tape
 output:w'.output=w.output
 size:w.heap.size<=w'.heap.size
 block:∀k,k<w.heap.size->k∉gs->w'.heap[k]? =w.heap[k]?
section
variable{gs:List Nat}{a w w':World}
theorem Rws.refl(gs:List Nat)(w:World):Rws gs w w:=⟨R,R,R,XAB _,λ_ _ _=>rfl⟩
theorem Rws.set(h:Rws gs a w){g:Nat}(hg:g∈gs)(i:Nat)(u:Value):Rws gs a (w.setCell (g,i) u):=
 ⟨h.os,h.tape,h.output,qbj,λk hk h1=>(XAN w _ u k (λe=>h1 (by rw [e];exact hg))).trans (h.block k hk h1)⟩
theorem Rws.below{B:Nat}(h:Rws gs w w')(hb:Below B a w)(h1:∀g∈gs,B<=g)(h3:B<=w.heap.size):Below B a w':=
 hb.trans ⟨h.os,h.tape,h.output,h.size,λk hk=>h.block k qd (λe=>by have:=h1 k e;omega)⟩
theorem ak.rws{k:Nat}{t:TypeId}{cs:Array Value}(h:ak w k t cs)(hT:Rws gs w w')(h1:k∉gs):ak w' k t cs:=(hT.block k h.lt h1).trans h
end
theorem Rws.trans{gs:List Nat}{a w w':World}(h:Rws gs a w)(h':Rws gs w w'):Rws gs a w':=
 ⟨h'.os.trans h.os,h'.tape.trans h.tape,h'.output.trans h.output,XAL h.size h'.size,λk hk h1=>(h'.block k (XAH hk h.size) h1).trans (h.block k hk h1)⟩
theorem Rws.of_below{w w':World}(gs:List Nat)(h:Below w w w'):Rws gs w w':=⟨h.os,h.tape,h.output,h.size,λk hk _=>h.block k hk⟩
theorem Rws.drew{gs:List Nat}{a w:World}(h:Rws gs a w):Rws gs a w.drew:=⟨h.os,h.tape,h.output,h.size,h.block⟩
theorem Rws.drewN{gs:List Nat}{a w:World}(h:Rws gs a w)(n:Nat):Rws gs a (w.drewN n):=⟨h.os,h.tape,h.output,h.size,h.block⟩
theorem Row.rws{w w':World}{gs:List Nat}{A:Option Addr}{xs:List Value}(h:Row w A xs)(hT:Rws gs w w')(h1:0<xs.length->∀g off,A=some ⟨g,off,none⟩->g∉gs):Row w' A xs:=λhp=>by
 obtain⟨g,off,e,hb,hc⟩:=h hp;exact⟨g,off,e,XAH hb hT.size,λj u hu=>(XAP (w:=w) (hT.block g hb (h1 hp g off e))).trans (hc j u hu)⟩
theorem ed.rws{w w':World}{gs ws:List Nat}{A:Option Addr}{n c:Nat}{l:List Wt}(h:ed w gs A n c l)(hT:Rws ws w w')(hw:∀g∈ws,g∈gs):ed w' gs A n c l:=
 ⟨h.len,h.cap,Row.rws h.row hT (λhp g off e hm=>h.ne (by rw [lU] at hp;have:=h.len;omega) g off e (hw g hm)),h.ne⟩
theorem iJ.rws{w w':World}{gs ws:List Nat}{v:Value}{l:List Wt}(h:iJ w gs v l)(hT:Rws ws w w')(hw:∀g∈ws,g∈gs):iJ w' gs v l:=by
 rcases h with h|⟨A,n,c,h1,h2⟩
 .exact .inl h
 .exact .inr ⟨A,n,c,h1,h2.rws hT hw⟩
theorem map_set{α:Type}(f:Nat->α)(g:α->Value)(n k:Nat)(x:α):((List.range n).map λ(i:Nat)=>g (f i)).set k (g x)=(List.range n).map λ(i:Nat)=>g (cT f k x i):=by
 apply XA5;intro j;rw [XBm,XAY,XEQ];by_cases hj:j<n
 .rw [XAa,XAa,XBX hj];by_cases e:k=j
  .subst e;simp [hj,upd_same]
  .rw [XAD e];simp [upd_ne _ _ (λe'=>e e'.symm)]
 .rw [XAd qj,XAd qj];split
  .split
   .omega
   .rfl
  .rfl
section
variable{w w':World}{B r da ra na:Nat}{gs:List Nat}{G:Gr}
theorem aN.rws{ws:List Nat}{b:Nat}(h:aN w b gs G)(hT:Rws ws w w')(h1:b∉ws)(hw:∀g∈ws,g∈gs):aN w' b gs G:=by
 obtain⟨hg,hz,cs,hB,hC⟩:=h;exact⟨hg,λg hg'=>XAH (hz g hg') hT.size,cs,hB.rws hT h1,hC.size,hC.iN,hC.deep,λk hk=>(hC.rows k hk).imp λv h=>⟨h.1,h.2.rws hT hw⟩,hC.ended,hC.going,hC.needs⟩
end
end Go.Proofs.YtedefgjfgdcfdaaGreatDoor
