/- Walks and laws for TopPages. -/
import Derived.Test.YtedefgjfgdcfdaaGreatDoorQ36
import Derived.Test.YtedefgjfgdcfdaaGreatDoorQ31
namespace Go.Proofs.YtedefgjfgdcfdaaGreatDoor
open Go.RowKit Go.Proofs.Tryz
set_option maxRecDepth 100000
set_option maxHeartbeats 4000000
def yv:Ch:=⟨1,10,1000003⟩
def vZ(pc:Int):Bool:=pc==0||pc==1||pc==2||pc==3||pc==10||pc==11||pc==12||pc==13
def C9(pc:Int):Bool:=pc==30||pc==31||pc==34||pc==35||pc==36||pc==40||pc==41||pc==42||pc==43||pc==44
theorem WS{pc:Int}(h:vZ pc=true):jE pc:=by
 unfold vZ at h;unfold jE;simp at h;omega
theorem WT{pc:Int}(h:C9 pc=true):gz pc:=by
 unfold C9 at h;unfold gz;simp at h;omega
def nw(E:St):St:=
 bif E.t.aB==1 then { E with t:=eA E.t true 0 } else
 let r:=bif vZ E.t.pc then dU yv E.t.pc ⟨E.t,false,E.ws,E.n⟩ else aZ yv E.t.pc ⟨E.t,false,E.ws,E.n⟩
 ⟨eW E.t r,false,r.ws,r.n⟩
def cJ(E:St):Nat->St
 |0=>E
 |k+1=>nw (cJ E k)
def dF:St:=⟨{ aO with ar:=1,aj:=0 },false,List.replicate 456 0,0⟩
def gL:St:=⟨{ aO with ar:=2,aj:=0,pc:=10,ai:=0,aq:=0 },false,(cJ dF 22).ws,(cJ dF 22).n⟩
def nI(E:St):Bool:=E.t.az==0 && (E.t.aj==0 && (E.t.aB==0 && (vZ E.t.pc||C9 E.t.pc)))
def yc(E:St):Bool:=E.t.az==0 && (E.t.aj==0 && (E.t.aB==1 && (E.ws.getD 9 0==0 && (E.t.pc !=77 && E.t.pc !=78))))
def vo(f:Nat->Bool):Nat->Bool
 |0=>true
 |k+1=>vo f k && f k
theorem yu{f:Nat->Bool} :∀{n k:Nat},vo f n=true->k<n->f k=true
 |0,_,_,h=>absurd h (XC_ _)
 |n+1,k,h,hk=>by
  unfold vo at h;simp at h;rcases XAc k n with h1|h1
  .exact yu h.1 h1
  .have:k=n:=by omega
   subst this;exact h.2
theorem SM:vo (λk=>if k=7 then yc (cJ dF k) else nI (cJ dF k)) 22=true:=qh
theorem SL:((cJ dF 22).t.az==1 && ((cJ dF 22).t.ai==0 && (cJ dF 22).t.aq==0))=true:=qh
theorem G0:vo (λk=>nI (cJ gL k)) 4=true:=qh
theorem SN:((cJ gL 4).t.az==1)=true:=qh
def nv(t:Tk):Int->Option Tk:=λa=>if a=0 then some t else none
theorem G3(t:Tk):cU (λ_=>none) ((0:Nat):Int) (some t)=nv t:=by
 funext a;unfold cU nv;rfl
theorem yw(t t':Tk)(h:t'.aj=0):fW (nv t) t'=if t'.az=0 then nv t' else λ_=>none:=by
 funext a;unfold fW cU nv;rw [h];by_cases h0:a=0
 .rw [XAE h0];split
  .exact(XAE h0).symm
  .rfl
 .rw [XAD h0,XAD h0];split
  .exact(XAD h0).symm
  .rfl
structure lj(x:Cc)(Q:Int->Option Tk)(ws:List Nat)(n:Nat):Prop where
 live:x.live=true
 ch:x.ch=yv
 ord:x.ly.ord=0
 Q:x.Q=Q
 ws:x.ws=ws
 n:x.n=n
def my:List Cl:= [⟨0,0,23,0⟩,⟨1,0,0,0⟩,⟨2,0,0,0⟩]
inductive eN:Nat->KS->Prop
 |p0 {M:KS} (hf:M.fr 0=dV 0) (hc:M.cs= []) (hh:M.hs= []) (hd:M.ds.length=0) (hg:gI M.gr) (hT:¬ic M.T 9 0 11):eN 32 M
 |p1 {M:KS} {x:Cc} (hf:M.fr 0=dV 1) (hc:M.cs= [x]) (hx:lj x (λ_=>none) dF.ws dF.n) (hh:M.hs= []) (hd:M.ds.length=1) (hg:gI M.gr) (hT:¬ic M.T 9 0 11):eN 31 M
 |p2 {M:KS} {x:Cc} (hb:(M.fr 0).busy=true) (hn:(M.fr 0).next=1) (ha:(M.fr 0).acts= [⟨173,3,1,((0:Nat):Int),0⟩,⟨176,4,((0:Nat):Int),0,0⟩]) (hc:M.cs= [x]) (hx:lj x (λ_=>none) dF.ws dF.n) (hh:M.hs= []) (hd:M.ds.length=1) (hg:gI M.gr) (hT:¬ic M.T 9 0 11):eN 30 M
 |p3 {M:KS} {x:Cc} (k:Nat) (hk:k<22) (hb:(M.fr 0).busy=true) (hn:(M.fr 0).next=1) (ha:(M.fr 0).acts= [⟨173,3,1,((0:Nat):Int),0⟩,⟨176,4,((0:Nat):Int),0,0⟩]) (hc:M.cs= [x]) (hx:lj x (nv (cJ dF k).t) (cJ dF k).ws (cJ dF k).n) (hh:M.hs= []) (hd:M.ds.length=1) (hg:gI M.gr) (hT:k<=7->¬ic M.T 9 0 11):eN (29-k) M
 |p4 {M:KS} {x:Cc} (hb:(M.fr 0).busy=true) (hn:(M.fr 0).next=1) (ha:(M.fr 0).acts= [⟨176,4,((0:Nat):Int),0,0⟩]) (hs:(M.fr 0).ai=0) (ho:(M.fr 0).aq=0) (hc:M.cs= [x]) (hx:lj x (λ_=>none) gL.ws gL.n) (hh:M.hs= []) (hd:M.ds.length=1) (hg:gI M.gr):eN 7 M
 |p5 {M:KS} {x:Cc} (hf:M.fr 0=dV 2) (hc:M.cs= [x]) (hx:lj x (λ_=>none) gL.ws gL.n) (hh:M.hs= [⟨0,0,0,0,true⟩]) (hd:M.ds.length=2) (hg:gI M.gr):eN 6 M
 |p6 {M:KS} {x:Cc} (hb:(M.fr 0).busy=true) (hn:(M.fr 0).next=2) (ha:(M.fr 0).acts= [⟨173,3,2,((0:Nat):Int),0⟩]) (hc:M.cs= [x]) (hx:lj x (λ_=>none) gL.ws gL.n) (hh:M.hs= [⟨0,0,0,0,false⟩]) (hd:M.ds.length=2) (hg:gI M.gr):eN 5 M
 |p7 {M:KS} {x:Cc} (k:Nat) (hk:k<4) (hb:(M.fr 0).busy=true) (hn:(M.fr 0).next=2) (ha:(M.fr 0).acts= [⟨173,3,2,((0:Nat):Int),0⟩]) (hc:M.cs= [x]) (hx:lj x (nv (cJ gL k).t) (cJ gL k).ws (cJ gL k).n) (hh:M.hs= [⟨0,0,0,0,false⟩]) (hd:M.ds.length=2) (hg:gI M.gr):eN (4-k) M
 |p8 {M:KS} (hf:M.fr 0=dV 3) (hh:M.hs= [⟨0,0,0,0,false⟩]) (hd:M.ds.length=3):eN 0 M
section
variable{A:KA}{M M1 M':KS}{r:Nat}
theorem eN.runs(hK:A.K 0=my)(h:eN (r+1) M):dI A M 0=true:=by
 unfold dI;rw [hK];generalize hr:r+1=r' at h;cases h with
 |p0 hf=>rw [hf];rfl
 |p1 hf=>rw [hf];rfl
 |p2 hb=>rw [hb];rfl
 |p3 k hk hb=>rw [hb];rfl
 |p4 hb=>rw [hb];rfl
 |p5 hf=>rw [hf];rfl
 |p6 hb=>rw [hb];rfl
 |p7 k hk hb=>rw [hb];rfl
 |p8=>cases hr
theorem eN.ends(hK:A.K 0=my)(h:eN 0 M):dI A M 0=false/\M.ds.length=3/\M.hs= [⟨0,0,0,0,false⟩]:=by
 generalize hr:0=r' at h;cases h with
 |p3 k hk=>omega
 |p7 k hk=>omega
 |p8 hf hh hd=>exact⟨by unfold dI;rw [hK,hf];rfl,hd,hh⟩
 |_=>cases hr
theorem eN.le(h:eN r M):r<=32:=by
 cases h<;>omega
theorem It{E:St}{x:Cc}(hg:nI E=true)(hx:lj x (nv E.t) E.ws E.n){t':Tk}{ws:List Nat}{n:Nat}(he:m6 x.ch E.t x.ws x.n t' ws n):t'=(nw E).t/\ws=(nw E).ws/\n=(nw E).n:=by
 unfold nI at hg;simp at hg;obtain⟨h1,h2,h3,h4⟩:=hg;rw [hx.ch,hx.ws,hx.n] at he;unfold nw;have hw:(E.t.aB==1)=false:=by rw [h3];rfl
 rw [hw];simp only [XC4];cases hf:vZ E.t.pc with
 |true=>exact he.fa (WS hf)
 |false=>
  rcases h4 with h4|h4
  .rw [hf] at h4;cases h4
  .exact he.fi (WT h4)
theorem yD{E:St}(hg:nI E=true):E.t.az=0/\E.t.aj=0/\E.t.aB=0:=by
 unfold nI at hg;simp at hg;exact⟨hg.1,hg.2.1,hg.2.2.1⟩
theorem Gj{E:St}(hg:yc E=true):E.t.az=0/\E.t.aj=0/\E.t.aB=1/\E.ws.getD 9 0=0/\E.t.pc≠77/\E.t.pc≠78:=by
 unfold yc at hg;simp at hg;obtain⟨a,b,c,d,e,f⟩:=hg;exact⟨a,b,c,by simpa using d,e,f⟩
theorem GZ{k:Nat}(hk:k<22):if k=7 then yc (cJ dF k)=true else nI (cJ dF k)=true:=by
 have h:=yu SM hk;split at h
 .rename_i e;rw [XAE e];exact h
 .rename_i e;rw [XAD e];exact h
theorem SK:∀k,k<=22->(cJ dF k).t.aj=0/\(k<22->(cJ dF k).t.az=0):=λk hk=>by
 rcases XAc k 22 with h|h
 .have h1:=GZ h;split at h1
  .have:=Gj h1;exact⟨this.2.1,λ_=>this.1⟩
  .have:=yD h1;exact⟨this.2.1,λ_=>this.1⟩
 .have:k=22:=by omega
  subst this;exact⟨qh,λh=>absurd h qd⟩
theorem lj.upd{x:Cc}{Q Q':Int->Option Tk}{ws ws':List Nat}{n n' q:Nat}(h:lj x Q ws n):lj (x.upd ws' n' Q' q) Q' ws' n':=⟨h.live,h.ch,h.ord,R,R,R⟩
theorem zV{α:Type}{l:List α}{x:α}(h:l= [x]):l[0]? =some x:=qgt
theorem uy{α:Type}{l:List α}{x y:α}(h:l= [x]):l.set 0 y= [y]:=qgt
theorem sS.run(he:sS M1 M' 0){f:Fm}(hf:M1.fr 0=f)(ha:f.acts≠ []):M'=M1:=he.go (by rw [hf];exact ha)
theorem eN.step(hK:A.K 0=my)(hC:A.C=1)(hn:A.ae.n=9)(h:eN (r+1) M)(hs:u_ A M M1 0)(he:sS M1 M' 0):eN r M':=by
 generalize hr:r+1=r' at h;cases h with
 |p0 hf hc hh hd hg hT=>
  obtain rfl:r=31:=qd;obtain⟨y,M3,f,v,hy,hb,hf1,e1,e2,e3,e4⟩:=hs.be (by rw [hf];rfl);rw [hK,hf] at hy;obtain rfl:(⟨0,0,23,0⟩:Cl)=y:=by injection hy
  obtain⟨f0,fa,fh,h3,t3,g3,x,hx,n1,n2,n3,n4,n5,n6,n7,n8⟩:=hb.1 R hc qh;obtain⟨q1,q2,q3,q4⟩:=he.en (by rw [hf1];exact fa);obtain⟨q5,q6,q7⟩:=q4 (by rw [e4,g3];exact hg);have hch:x.ch=yv:=by rw [n5,n4,hC];kernel_rfl
  exact .p1 (x:=x) (by rw [q1,b_,hs.nx,hf];rfl) (by rw [q7,e1,hx]) ⟨n1,hch,by rw [n4];kernel_rfl,n6,by rw [n7,hch];rfl,n8⟩ (by rw [q2,e2,h3];exact hh) (by rw [q3,hs.ds,hd]) q5 (by rw [q6,e3,t3];exact hT)
 |p1 hf hc hx hh hd hg hT=>
  rename_i x;obtain rfl:r=30:=qd;obtain⟨y,M3,f,v,hy,hb,hf1,e1,e2,e3,e4⟩:=hs.be (by rw [hf];rfl);rw [hK,hf] at hy;obtain rfl:(⟨1,0,0,0⟩:Cl)=y:=by injection hy
  obtain⟨c3,h3,t3,g3,fa,f0,fh⟩:=hb.2.1 R x hc hx.live R rfl;obtain rfl:=he.run hf1 (by rw [fa];simp);exact .p2 (x:=x) hs.bu (by rw [hs.nx,hf];rfl) (by rw [hf1,fa];rfl) (by rw [e1,c3];exact hc) hx (by rw [e2,h3];exact hh) qdw (by rw [e4,g3];exact hg) (by rw [e3,t3];exact hT)
 |p2 hb hx1 ha hc hx hh hd hg hT=>
  rename_i x;obtain rfl:r=29:=qd;obtain⟨v,hac⟩:=hs.ac hb;obtain⟨k1,k2,k3,k4,Q,q,k5,k6,-⟩:=(hac.co 3 1 0 0 _ x ha (zV hc)).no (by rw [hx.Q]);have kf:M1.fr=M.fr:=k1;have kh:M1.hs=M.hs:=k2;have kT:M1.T=M.T:=k3;have kg:M1.gr=M.gr:=k4;have kc:M1.cs=M.cs.set 0 (x.upd x.ws x.n Q q):=k5;obtain rfl:=he.go qjj;have hQ:=k6 rfl;rw [hx.Q,G3] at hQ;refine .p3 (x:=x.upd x.ws x.n Q q) 0 qd qhg qgq qiv (by rw [kc,uy hc]) ?_ qhh qdw qfr (λ_=>by rw [kT];exact hT);rw [hQ,hx.ws,hx.n];exact hx.upd
 |p3 k hk hb hx1 ha hc hx hh hd hg hT=>
  rename_i x;obtain⟨v,hac⟩:=hs.ac hb;have co:=hac.co 3 1 0 0 _ x ha (zV hc);have hat:=GZ hk;by_cases h7:k=7
  .rw [XAE h7] at hat;obtain⟨d1,d2,d3,d4,d5,d6⟩:=Gj hat;have vJ:x.Q ((0:Nat):Int)=some (cJ dF k).t:=by rw [hx.Q];rfl
   obtain⟨k1,k2,k4,P,q,k5⟩:=co.pg _ vJ d3 (by
    show ¬ic M.T A.ae.n x.ly.ord.toNat 11
    rw [hn,hx.ord];exact hT qd) ⟨by rw [hx.ch,hx.ws];exact d4,λy t _ hy=>by
     rw [hx.Q] at hy
     unfold nv at hy
     split at hy
     .injection hy with hy
      subst hy
      intro hm
      rcases hm with⟨e,-⟩|e|e
      .rw [d3] at e;cases e
      .exact d5 e
      .exact d6 e
     .cases hy⟩
   have kf:M1.fr=M.fr:=k1;have kh:M1.hs=M.hs:=k2;have kg:M1.gr=M.gr:=k4;have kc:M1.cs=M.cs.set 0 _:=k5;obtain rfl:=he.go qjj;have est:cJ dF (k+1)= { cJ dF k with t:=eA (cJ dF k).t true 0 } :=by show nw (cJ dF k)=_;unfold nw;rw [show((cJ dF k).t.aB==1)=true by rw [d3];rfl];rfl
   obtain rfl:r=29-(k+1):=qd;have hc2:(eA (cJ dF k).t true 0).aj=0/\(eA (cJ dF k).t true 0).az=0:=⟨d2,d1⟩;refine .p3 (k+1) qd qhg qgq qiv (kc.trans (uy hc)) ?_ qhh qdw qfr (λh=>qd);rw [est];rw [hx.Q,yw _ _ hc2.1,XAE hc2.2];exact⟨hx.live,hx.ch,hx.ord,R,hx.ws,hx.n⟩
  .rw [XAD h7] at hat;obtain⟨d1,d2,d3⟩:=yD hat;have vJ:x.Q ((0:Nat):Int)=some (cJ dF k).t:=by rw [hx.Q];rfl
   obtain⟨k2,k3,k4,t',ws,n,q,hex,k5,k6,k7⟩:=co.st _ vJ d3;have kh:M1.hs=M.hs:=k2;have kT:M1.T=M.T:=k3;have kg:M1.gr=M.gr:=k4;have kc:M1.cs=M.cs.set 0 _:=k5;obtain⟨e1,e2,e3⟩:=It hat hx hex;have est:cJ dF (k+1)=nw (cJ dF k):=rfl;rw [<-est] at e1 e2 e3;obtain⟨c1,c2⟩:=SK (k+1) qd;rcases XAc (k+1) 22 with hlt|hge
   .have hf0:=c2 hlt;have kf:M1.fr=M.fr:=k6 (by rw [e1];exact hf0);obtain rfl:=he.go qjj;obtain rfl:r=29-(k+1):=by omega
    refine .p3 (k+1) hlt qhg qgq qiv (kc.trans (uy hc)) ?_ qhh qdw qfr (λh=>by rw [kT];exact hT qd);rw [hx.Q,e1,e2,e3,yw _ _ c1,XAE hf0];exact hx.upd
   .obtain rfl:k=21:=by omega
    have hen:=SL;simp at hen;obtain⟨g1,g2,g3⟩:=hen;obtain⟨av,kf⟩:=k7 (by rw [e1];exact g1);have kf:M1.fr 0=_:=kf;obtain rfl:=he.run kf ql;obtain rfl:r=7:=qd
    refine .p4 qhg qgq (by rw [kf]) (by rw [kf];show t'.ai=0;rw [e1];exact g2) (by rw [kf];show t'.aq=0;rw [e1];exact g3) (kc.trans (uy hc)) ?_ qhh qdw qfr;rw [hx.Q,e1,e2,e3,yw _ _ c1,XAD (by rw [g1];decide)];exact hx.upd
 |p4 hb hx1 ha hsl hob hc hx hh hd hg=>
  rename_i x;obtain rfl:r=6:=qd;obtain⟨v,hac⟩:=hs.ac hb;obtain⟨k1,k2,k3,k4,k5,k6,k7⟩:=hac.ow 0 0 [] ha;have kc:M1.cs=M.cs:=k1;have kg:M1.gr=M.gr:=k3;have kh:M1.hs=M.hs++ [⟨0,(M.fr 0).ai,(M.fr 0).aq,0,true⟩]:=k4;obtain⟨q1,q2,q3,q4⟩:=he.en k5;obtain⟨q5,q6,q7⟩:=q4 qfr;exact .p5 (x:=x) (by rw [q1,b_,hs.nx,hx1]) (by rw [q7,kc];exact hc) hx (by rw [q2,kh,hh,hsl,hob];rfl) (by rw [q3,hs.ds,hd]) q5
 |p5 hf hc hx hh hd hg=>
  rename_i x;obtain rfl:r=5:=qd;obtain⟨y,M3,f,v,hy,hb,hf1,e1,e2,e3,e4⟩:=hs.be (by rw [hf];rfl);rw [hK,hf] at hy;obtain rfl:(⟨2,0,0,0⟩:Cl)=y:=by injection hy
  obtain⟨c3,h3,t3,g3,f0,fh,u,fa,hu⟩:=hb.2.2 R _ hh R rfl;have hu0:u=0:=hu (XBG 0) qf (XBG 0) qf;subst hu0;obtain rfl:=he.run hf1 (by rw [fa];simp);exact .p6 (x:=x) hs.bu (by rw [hs.nx,hf];rfl) (by rw [hf1,fa]) (by rw [e1,c3];exact hc) hx (by rw [e2,h3];rfl) qdw (by rw [e4,g3];exact hg)
 |p6 hb hx1 ha hc hx hh hd hg=>
  rename_i x;obtain rfl:r=4:=qd;obtain⟨v,hac⟩:=hs.ac hb;obtain⟨k1,k2,k3,k4,Q,q,k5,-,k6⟩:=(hac.co 3 2 0 0 _ x ha (zV hc)).no (by rw [hx.Q]);have kf:M1.fr=M.fr:=k1;have kh:M1.hs=M.hs:=k2;have kg:M1.gr=M.gr:=k4;have kc:M1.cs=M.cs.set 0 (x.upd x.ws x.n Q q):=k5;obtain rfl:=he.go qjj;have hQ:=k6 R (XBG 0) qf (by rw [hx.ch];decide);rw [hx.Q,G3] at hQ;refine .p7 (x:=x.upd x.ws x.n Q q) 0 qd qhg qgq qiv (by rw [kc,uy hc]) ?_ qhh qdw qfr;rw [hQ,hx.ws,hx.n];exact hx.upd
 |p7 k hk hb hx1 ha hc hx hh hd hg=>
  rename_i x;obtain⟨v,hac⟩:=hs.ac hb;have co:=hac.co 3 2 0 0 _ x ha (zV hc);have hat:nI (cJ gL k)=true:=yu G0 hk;obtain⟨d1,d2,d3⟩:=yD hat;have vJ:x.Q ((0:Nat):Int)=some (cJ gL k).t:=by rw [hx.Q];rfl
  obtain⟨k2,k3,k4,t',ws,n,q,hex,k5,k6,k7⟩:=co.st _ vJ d3;have kh:M1.hs=M.hs:=k2;have kg:M1.gr=M.gr:=k4;have kc:M1.cs=M.cs.set 0 _:=k5;obtain⟨e1,e2,e3⟩:=It hat hx hex;have est:cJ gL (k+1)=nw (cJ gL k):=rfl;rw [<-est] at e1 e2 e3;rcases XAc (k+1) 4 with hlt|hge
  .have yK:nI (cJ gL (k+1))=true:=yu G0 hlt;obtain⟨c0,c1,-⟩:=yD yK;have kf:M1.fr=M.fr:=k6 (by rw [e1];exact c0);obtain rfl:=he.go qjj;obtain rfl:r=4-(k+1):=by omega
   refine .p7 (k+1) hlt qhg qgq qiv (kc.trans (uy hc)) ?_ qhh qdw qfr;rw [hx.Q,e1,e2,e3,yw _ _ c1,XAE c0];exact hx.upd
  .obtain rfl:k=3:=by omega
   have g1:(cJ gL 4).t.az=1:=by have:=SN;simpa using this
   obtain⟨av,kf⟩:=k7 (by rw [e1];exact g1);have kf:M1.fr 0=_:=kf;obtain rfl:r=0:=qd
   obtain⟨q1,q2,q3,-⟩:=he.en (by rw [kf]);exact .p8 (by rw [q1,b_,hs.nx,hx1]) (by rw [q2,kh];exact hh) (by rw [q3,hs.ds,hd])
 |p8=>cases hr
end
section
variable{A:KA}{M:KS}{w w':World}
def On(A:KA)(M:KS)(w:World)(e:Ending)(w':World):Prop:=
 (e=.returned (.tuple #[I 0,.bool false])/\Below w w w'/\∀k,k<A.C->dI A M k=false)\/
 ∃p M1 M',e=.returned (.tuple #[nV p,.bool true])/\p<A.C/\dI A M p=true/\KM A w' M'/\KF [] M.cl M'.cl w w'/\Bz A M'/\M'.s<=M.s+15/\u_ A M M1 p/\sS M1 M' p
theorem abk{n:Nat}{ah:Nat->Bool}(h:dP n ah= []):∀k,k<n->ah k=false:=λk hk=>by
 cases hr:ah k with
 |false=>rfl
 |true=>
  have:k∈dP n ah:=by unfold dP;simp [hk,hr]
  rw [h] at this;cases this
theorem zF{n p:Nat}{ah:Nat->Bool}(h:p∈dP n ah):p<n/\ah p=true:=by
 unfold dP at h;simpa using h
theorem J5(h:KM A w M)(hs:M.s<=27000)(hz:Bz A M)(n:Int)(hn:dC n):Z 15 #[(A.kb,0),I n] w (On A M w):=by
 have HC:=XAA h;have HZ:=XAA hz;have HN:=XAA hn;have hc8:=h.ok.c8;clear h hz hn;go_enter func15,ntmps15;go_wp2_with (first|(go_at_call 12;refine Xr (pz HC.out) ?_)|(go_at_call 36;refine(Yl HC.out).mono ?_;rintro e w1 ⟨g,rfl,hr1,hb1⟩;have HR1:=XAA hr1;have HB1:=XAA hb1;clear hr1 hb1)|(go_at_call 35;refine(ZX _ g A.C A.C (dI A M) qd (XAB _) HR1.out n HN.out).mono ?_;rintro e w2 ⟨hb2,⟨hnil,rfl⟩|⟨p,hp,rfl⟩⟩;all_goals (have HB2:=XAA hb2;clear hb2))|(go_at_call 37;refine(Yo ((HC.out.below HB1.out).below HB2.out) qd (zF hp).1 HZ.out (zF hp).2).mono ?_;rintro e w3 ⟨rfl,M1,M',h3,k3,z3,s3,i3,x3⟩;have H3:=XAA (And.intro h3 (And.intro k3 (And.intro z3 (And.intro s3 (And.intro i3 x3)))));clear h3 k3 z3 s3 i3 x3))
 .go_ret2
  exact .inl ⟨R,HB1.out.trans (HB2.out.mono HB1.out.size),abk hnil⟩
 .go_ret2
  obtain⟨h3,k3,z3,s3,i3,x3⟩:=H3.out;exact .inr ⟨p,M1,M',R,(zF hp).1,(zF hp).2,h3,(KF.below [] M.cl (HB1.out.trans (HB2.out.mono HB1.out.size))).trans k3,z3,s3,i3,x3⟩
end
section
variable{A:KA}{M:KS}{w w':World}{cb:Nat}{pv:Value}{s:Sc}
def A8(A:KA)(M:KS)(m:Nat)(w:World)(e:Ending)(w':World):Prop:=
 ∃(j:Nat)(M':KS),j<=m/\e=.returned (nV j)/\KM A w' M'/\KF [] M.cl M'.cl w w'/\Bz A M'/\M'.s<=M.s+15*j/\(j<m->∀k,k<A.C->dI A M' k=false)/\
  (∀r,A.C=1->A.K 0=my->A.ae.n=9->eN r M->∃r',r=r'+j/\eN r' M')
structure uK(A:KA)(M:KS)(w:World)(j:Nat)(wr:World)(M':KS):Prop where
 km:KM A wr M'
 kf:KF [] M.cl M'.cl w wr
 z:Bz A M'
 s:M'.s<=M.s+15*j
 d:∀r,A.C=1->A.K 0=my->A.ae.n=9->eN r M->∃r',r=r'+j/\eN r' M'
theorem uK.next{M1 M' M2:KS}{wr w2:World}{j p:Nat}(h:uK A M w j wr M')(hp:p<A.C)(hr:dI A M' p=true)(h3:KM A w2 M2)(k3:KF [] M'.cl M2.cl wr w2)(z3:Bz A M2)(s3:M2.s<=M'.s+15)(i3:u_ A M' M1 p)(x3:sS M1 M2 p):uK A M w (j+1) w2 M2:=by
 refine⟨h3,h.kf.trans k3,z3,by have:=h.s;omega,λr hC hK hn hd=>?_⟩;obtain⟨r',e,hd'⟩:=h.d r hC hK hn hd;have:p=0:=qd
 subst this;cases r' with
 |zero=>have:=(hd'.ends hK).1;rw [this] at hr;cases hr
 |succ q=>exact⟨q,qd,hd'.step hK hC hn i3 x3⟩
theorem J3(h:KM A w M)(hz:Bz A M)(hp:w.ownsRow 0 3 1 pv s.P.length (s.P.map nV))(h0:∀g,pv.ownBlock=some g->g≠0->M.cl g=0)(hpk:∀x∈s.P,x<=255)(fr m:Nat)(hf:fr<=1000)(hm:m<=1000)(hs:M.s+15*m<=27000):
  Z 7 #[(A.kb,0),uw cb pv s,I fr,I m] w (A8 A M m w):=by
 obtain⟨B,c,rfl⟩:=lQ hp;have hz0:M.cl w.heap.size=0:=h.new _ (XAB _);obtain⟨n,hn⟩:=Xq s.P.length;rw [hn] at hp h0;have NQ:=XAA hpk;have xv:=XAA h.gn.1;have HP:=XAA hp;have H0:=XAA h0;have HN:=XAA hn;have hI:uK A M (w.alloc (.cells #[nV s.C,nV s.n,.slice (cb,0) s.C s.C,.slice B n c] 27)) 0 (w.alloc (.cells #[nV s.C,nV s.n,.slice (cb,0) s.C s.C,.slice B n c] 27)) M:=⟨h.alloc _,KF.refl [] M.cl _,hz,qd,λr _ _ _ hd=>⟨r,R,hd⟩⟩;have hb0:=ak.new w 27 #[nV s.C,nV s.n,.slice (some ⟨cb,0,none⟩) s.C s.C,.slice B n c];have HB0:Hid (Below w w (w.alloc (.cells #[nV s.C,nV s.n,.slice (cb,0) s.C s.C,.slice B n c] 27))):=XAA ((XAC _ _).alloc (XAB _) _);have HI:=XAA hI;have oA:=XAA hb0;clear h hz hp h0 hpk hI hb0;go_enter func7,ntmps7;rw [HN.out];go_upto_region 1 with fail
 refine bg (λW hW=>?_);rw [<-hW] at HI HB0 oA;clear hW;go_wp2;go_loopw [9,10,11,12] (λq _ _ _ wr=>∃(j:Nat)(M':KS),q=I ((fr+j:Nat):Int)/\j<=m/\uK A M W j wr M') (λq _ _ _ _=>fr+m-(intOf q).toNat)
 case atStart=>exact⟨0,M,R,XAJ _,HI.out⟩
 case round=>
  obtain⟨j,M',rfl,hj,hI⟩:=hrel;have HJ:=XAA hI;have hblk:=(hI.kf.blk _ oA.out.lt ql hz0).trans oA.out;have y3:wr.cell? (w.heap.size,3)=some (.slice B n c):=ak.cell (w:=wr) hblk 3;have ylt:=ak.lt (w:=wr) hblk;have hsJ:M'.s<=27000:=by have:=hI.s;have:15*j<=15*m:=Nat.mul_le_mul_left _ hj;omega
  have hpr:wr.ownsRow 0 3 1 (.slice B n c) n (s.P.map nV):=cM HP.out λg hg=>(by
   by_cases e:g=0
   .subst e
    exact(show wr.heap[0]? =_ from hI.km.gn.1).trans xv.out.symm
   .exact(hI.kf.blk g (by have:=HB0.out.size;have:=cO HP.out hg;omega) ql (H0.out g hg e)).trans (HB0.out.block g (cO HP.out hg)))
  have xF:=XAA hpr;obtain⟨x,hx⟩:=Xq (fr+j);rw [hx];have HX:=XAA hx;have hx2:x<=2000:=qd
  clear hI hblk hpr hx;by_cases hc:x<fr+m
  .have b1:(x:Int)<(fr:Int)+(m:Int):=by omega
   have hjm:j<m:=qfw;by_cases hl:x<n
   .obtain⟨u,hu⟩:∃u,s.P[x]? =some u:=⟨_,XAO (by rw [HN.out];exact hl)⟩;have hu5:=NQ.out u (XAi hu);obtain⟨g,rfl,q1,q2⟩:∃g,B=some ⟨g,0,none⟩/\wr.cell? ⟨g,x,none⟩=some (nV u)/\g<wr.heap.size:=by
     obtain⟨nn,e⟩:∃nn,n=nn+1:=⟨n-1,qd⟩;have h9:=xF.out;rw [e] at h9;obtain⟨g,cap,e2⟩:=ownsRow_succ h9;injection e2 with e3 e4 e5;subst e3;have h8:=xF.out;have hcc:=kU (g:=g) (cap:=c) (n:=n) h8 (j:=x) (u:=nV u) (by rw [XAa,hu];rfl);exact⟨g,R,hcc.1,cO h8 R⟩
    have AN:=XAA (J5 HJ.out.km hsJ HJ.out.z (u:Int) (gY qd qd));have b2:(x:Int)<(n:Int):=qd
    have b3:¬(x:Int)<0:=qd;have b4:¬n<=x:=qd;clear hu;go_wp2_with (go_at_call 15;refine AN.out.mono ?_;rintro e w3 (⟨rfl,hb3,hr3⟩|⟨p,M1,M2,rfl,hp,hr,h3,k3,z3,s3,i3,x3⟩))
    .go_ret;exact⟨j,M',hj,XAK (λz=>Ending.returned (I z)) (show(x:Int)-(fr:Int)=(j:Int) from qfw),HJ.out.km.below hb3,(KF.below [] _ HB0.out).trans (HJ.out.kf.trans (KF.below [] _ hb3)),HJ.out.z,HJ.out.s,λ_=>hr3,HJ.out.d⟩
    .go_roundw
     case rel=>exact⟨j+1,M2,qgr,hjm,HJ.out.next hp hr h3 k3 z3 s3 i3 x3⟩
     case measure=>simp [intOf];omega
   .have AN:=XAA (J5 HJ.out.km hsJ HJ.out.z (x:Int) (gY qd qd));have b2:¬(x:Int)<(n:Int):=by omega
    go_wp2_with (go_at_call 15;refine AN.out.mono ?_;rintro e w3 (⟨rfl,hb3,hr3⟩|⟨p,M1,M2,rfl,hp,hr,h3,k3,z3,s3,i3,x3⟩))
    .go_ret;exact⟨j,M',hj,XAK (λz=>Ending.returned (I z)) (show(x:Int)-(fr:Int)=(j:Int) from qfw),HJ.out.km.below hb3,(KF.below [] _ HB0.out).trans (HJ.out.kf.trans (KF.below [] _ hb3)),HJ.out.z,HJ.out.s,λ_=>hr3,HJ.out.d⟩
    .go_roundw
     case rel=>exact⟨j+1,M2,qgr,hjm,HJ.out.next hp hr h3 k3 z3 s3 i3 x3⟩
     case measure=>simp [intOf];omega
  .have b1:¬(x:Int)<(fr:Int)+(m:Int):=by omega
   obtain rfl:j=m:=qfw;go_wp2;go_ret;exact⟨j,M',XAB _,R,HJ.out.km,(KF.below [] _ HB0.out).trans HJ.out.kf,HJ.out.z,HJ.out.s,λh=>absurd h (XDP _),HJ.out.d⟩
end
section
variable{A:KA}{M:KS}{w w':World}
def FB(M:KS)(w:World)(e:Ending)(w':World):Prop:=∃v,e=.returned v/\w'.ownsRow w.heap.size 68 5 v M.hs.length (M.hs.flatMap cB)/\Below w w w'
theorem Wl(l:List Hn):∀u∈l.flatMap cB,u.oneCell'=true:=λu hu=>by
 obtain⟨x,-,hx⟩:=XCi.1 hu;simp only [cB,XBD,XBn,XCZ] at hx;rcases hx with rfl|rfl|rfl|rfl|rfl<;>rfl
theorem SD(l:List Dd)(h:∀d∈l,d.hv.oneCell'=true):∀u∈l.flatMap f_,u.oneCell'=true:=λu hu=>by
 obtain⟨x,hx',hx⟩:=XCi.1 hu;simp only [f_,XBD,XBn,XCZ] at hx;rcases hx with rfl|rfl|rfl|rfl|rfl|rfl
 .rfl
 .rfl
 .rfl
 .rfl
 .rfl
 .exact h x hx'
theorem WL:(prog.info? 68).map (λi=>(i.zero,i.size,i.bytes))=some (some (.agg #[I 0,I 0,I 0,I 0,.bool false]),5,40):=qh
theorem WH:(prog.info? 107).map (λi=>(i.zero,i.size,i.bytes))=some (some (.agg #[I 0,I 0,I 0,I 0,I 0,.slice none 0 0]),6,64):=qh
theorem X1(h:KM A w M)(hs:M.s<=30000):Z 16 #[(A.kb,0)] w (FB M w):=by
 have hn:=h.ok.hs;obtain⟨i0,aa⟩:=XA4 WL;have hc:Z 38 #[M.hv] w (FB M w):=BO acM aa R qf sizeOf68 (show w.ownsRow 0 68 5 M.hv M.hs.length (M.hs.flatMap cB) from h.hs.1) qd qf (Wl _);have HC:=XAA h;have HH:=XAA hc;have k28:=h.rd.k28;clear h hc;go_enter func16,ntmps16;go_wp2_with (first|(go_at_call 12;refine Xr (pz HC.out) ?_)|(go_at_call 38;refine HH.out.mono ?_;rintro e w1 ⟨v,rfl,hv⟩));go_ret;exact⟨v,R,hv⟩
def Oc(M:KS)(w:World)(e:Ending)(w':World):Prop:=∃B c,e=.returned (.slice B M.ds.length c)/\Below w w w'
theorem XT(h:KM A w M)(hs:M.s<=30000)(hdl:∀d∈M.ds,d.hs.length<=1000000):Z 17 #[(A.kb,0)] w (Oc M w):=by
 have hn:=h.ok.ds;obtain⟨i0,aa⟩:=XA4 WH;have hc:Z 39 #[M.dv] w λe w'=>∃v',e=.returned v'/\w'.ownsRow w.heap.size 107 6 v' M.ds.length (M.ds.flatMap f_)/\Below w w w':=BO acN aa R qf sizeOf107 (show w.ownsRow 0 107 6 M.dv M.ds.length (M.ds.flatMap f_) from h.ds.1.1) qd qf (SD _ λd hd=>by
  obtain⟨B,c,e,-⟩:=Own.slice (h.ds.2 d hd)
  rw [e];rfl)
 have HC:=XAA h;have HH:=XAA hc;have k30:=h.rd.k30;clear h hc;go_enter func17,ntmps17;go_wp2_with (first|(go_at_call 12;refine Xr (pz HC.out) ?_)|(go_at_call 39;refine HH.out.mono ?_;rintro e w1 ⟨v,rfl,hv,hb⟩;obtain⟨B,c,rfl⟩:=lQ hv));obtain⟨n,hnn⟩:=Xq M.ds.length;rw [hnn] at hv hn ⊢;have hcell:∀j,j<n->∃(b:Option Addr)(c2:Nat)(l:List Nat),((M.ds.flatMap f_)[j*6+5]? =some (.slice b l.length c2))/\Own M.cl 20 w 3 1 (.slice b l.length c2) l.length (l.map nV)/\l.length<=1000000:=λj hj=>by obtain⟨d,hd⟩:∃d,M.ds[j]? =some d:=⟨_,XAO qd⟩;have ho:=HC.out.ds.2 d (XAi hd);obtain⟨b,c2,e,-⟩:=Own.slice ho;rw [e] at ho;refine⟨b,c2,d.hs,?_,ho,hdl d (XAi hd)⟩;rw [yA (m:=6) (f:=f_) (λ_=>rfl) hd (by decide:5<6),<-e];rfl
 have NC:=XAA hnn;have MV:=XAA hcell;have HO:=XAA hv;have HB:=XAA hb;clear hcell hv hb HH k30 aa hnn;go_loopw [4,14] (λ_ z wr=>∃i:Nat,z=I i/\i<=n/\Below w w wr/\w1.heap.size<=wr.heap.size/\∀g,B=some ⟨g,0,none⟩->g<w1.heap.size->w.heap.size<=g->(∀j,wr.frozen? ⟨g,j,none⟩=false)/\∀j u,i*6<=j->(M.ds.flatMap f_)[j]? =some u->wr.cell? ⟨g,j,none⟩=some u) (λ_ z _=>n-(intOf z).toNat)
 case atStart=>
  refine⟨0,R,XAJ _,HB.out,XAB _,λg hg hl hge=>?_⟩;have h0:=(own_base HO.out).1;rw [hg] at h0;exact⟨λj=>(nW h0).frz j,λj u _ hu=>(kU h0 hu).1⟩
 case round=>
  obtain⟨i,rfl,hi,hb,hsz,hrow⟩:=hrel;have HR:=XAA hrow;have iF:=XAA hb;clear hrow hb;by_cases hlt:i<n
  .obtain⟨b,c2,l,hu,ho,je⟩:=MV.out i hlt;obtain⟨g,rfl,hg,hge⟩:∃g,B=some ⟨g,0,none⟩/\g<w1.heap.size/\w.heap.size<=g:=by
    obtain⟨h0,h1⟩:=own_base HO.out;rcases h0.2 with⟨e,-⟩|⟨g,cap,cur,e,-⟩
    .injection e with e1 e2 e3;omega
    .injection e with e1 e2 e3;subst e1;exact⟨g,R,cO h0 R,h1 g R⟩
   obtain⟨hz,hc⟩:=HR.out g R hg hge;have h5:wr.cell? (g,i*6+5)=some (.slice b l.length c2):=hc _ _ qd hu;have f5:=hz (i*6+5);have gO:g<wr.heap.size:=qd
   obtain⟨nl,hnl⟩:=Xq l.length;rw [hnl] at h5;have xq:Hid (Z 21 #[.slice b nl c2] wr λe w'=>∃b3 c3,e=.returned (.slice b3 nl c3)/\Below wr wr w'):=XAA (by
    have h6:wr.ownsRow 0 3 1 (.slice b l.length c2) l.length ((l.map λx:Nat=>(x:Int)).map (Value.int .i64)):=by
     rw [XC8]
     exact cM ho.1 λg' hg'=>iF.out.block g' (ho.2 g' hg').1
    rw [<-hnl]
    exact(JG h6 je).mono λe w' ⟨v',e1,e2,e3⟩=>by
     obtain⟨b3,c3,rfl⟩:=lQ e2
     exact⟨b3,c3,e1,e3⟩)
   have a1:(i:Int)<(n:Int):=qd;have a2:¬(i:Int)<0:=qd;have a3:¬n<=i:=qd;have HR2:=XAA (And.intro hz hc);clear hc hz hu ho;go_wp2_with (go_at_call 21;(refine xq.out.mono ?_);rintro e w3 ⟨b3,c3,rfl,hb3⟩;have h53:=(hb3.cell (p:=⟨g,i*6+5,none⟩) gO).trans h5;have f53:=(hb3.frozen (p:=⟨g,i*6+5,none⟩) gO).trans f5;have HB3:=XAA hb3;clear hb3);go_roundw
   case rel=>
    refine⟨i+1,qbf,hlt,(iF.out.trans (HB3.out.mono iF.out.size)).setCell (p:=⟨g,i*6+5,none⟩) hge _,by have:=HB3.out.size;simp [World.setCell];omega,λg' e hg' _=>?_⟩;obtain rfl:g=g':=by injection e with e;injection e
    refine⟨λj=>?_,λj u hj hu=>?_⟩
    .simp only [World.frozen?_setCell];exact(HB3.out.frozen (p:=⟨g,j,none⟩) gO).trans (HR2.out.1 j)
    .exact(XEM w3 _ _ _ (by intro e;injection e with _ e2;omega)).trans ((HB3.out.cell (p:=⟨g,j,none⟩) gO).trans (HR2.out.2 j u qd hu))
   case measure=>simp [intOf];omega
  .obtain rfl:i=n:=by omega
   go_wp2;go_ret;exact⟨B,c,by rw [NC.out];rfl,iF.out⟩
end
theorem Gs{w w1 w':World}{gt:TypeId}{cl cl':Nat->Nat}(hg:ak w 0 gt il)(hg':ak w' 0 gt il)(b:Below w w w1)(old:∀q,q<w.heap.size->q≠0->cl q=0)(kf:KF [] cl cl' w1 w'):Below w w w':=
 ⟨kf.os.trans b.os,kf.tape.trans b.tape,kf.output.trans b.output,XAL b.size kf.size,λq hq=>by
  by_cases e:q=0
  .subst e;exact(show w'.heap[0]? =_ from hg').trans hg.symm
  .exact(kf.blk q (XAH hq b.size) ql (old q hq e)).trans (b.block q hq)⟩
def vp:Sc:=⟨1,9,λ_=>my, []⟩
theorem SO:xT vp:=by
 refine⟨qf,qf,qf,qf,λi hi=>(by show my.length<=64;decide),λi hi x hx=>?_,qf,λx hx=>(by cases hx)⟩;have hx':x∈my:=hx;simp only [my,XBD,XBn,XCZ] at hx';rcases hx' with rfl|rfl|rfl<;>exact⟨qf,qf,qf,qf,qf,qf,qf,qf⟩
theorem SP{T:Tab}(h:lB T 9):¬ic T 9 0 11:=by
 obtain⟨L,hs,hk⟩:=h;intro hn;cases hs with
 |cons hd hr=>
  rename_i o L';have h0:=hk (0,o) (XA1 ..);have h1:=hn o 0 (XAJ _) (by have:=hd.pM;omega) qf (XDM _);have hc:(T 0).c=0:=by
   rcases hd.kind with h|h
   .exact h.2
   .have h0:(T 0).k=0:=h0;rw [h0] at h;exact absurd h.1 qf
  have h2:ik T 9 0 o=true:=by unfold ik;have h0:(T 0).k=0:=h0;rw [h0,hd.ord,hc];simp
  rw [h1] at h2;cases h2
theorem SQ{A:KA}{M:KS}(h:xQ vp A M):eN 32 M:=.p0 (by rw [h.fr]) h.cs h.hs (by rw [h.ds];rfl) h.gr (SP h.T)
theorem JZ(w:World){gt:TypeId}(hg:ak w 0 gt il):Z 8 #[] w λe w'=>e=.returned (.bool true)/\Below w w w':=by
 have HG:=XAA hg;clear hg;go_enter func8,ntmps8;go_upto_region 2 with fail
 refine bg (λW hW=>?_);have h1:ak W w.heap.size 63 #[I 0,I 0,I 23,I 0,I 1,I 0,I 0,I 0,I 2,I 0,I 0,I 0]:=by rw [hW];exact((ak.new w _ _).alloc _).alloc _
 have h2:ak W (w.heap.size+1) 64 #[.slice (w.heap.size,0) 3 3]:=by rw [hW];exact(ak.new2 w _ _ _).alloc _
 have h3:ak W (w.heap.size+1+1) 27 #[I 1,I 9,.slice (w.heap.size+1,0) 1 1,.slice none 0 0]:=by rw [hW];exact ak.g_ w _ _ _ _
 have hb:Below w w W:=by rw [hW];exact(((XAC _ w).alloc (XAB _) _).alloc ql _).alloc qj _
 have hsc:oM W (w.heap.size+1) (λ_=>.slice (w.heap.size,0) 3 3) (.slice none 0 0) vp:=by refine⟨aG.jP h2,λi hi=>⟨R,.inr ⟨w.heap.size,3,_,R,XAJ _,h1,XAB _,qf,R,R⟩⟩,⟨R,.inl ⟨R,R⟩⟩,SO⟩
 have y0:W.cell? (w.heap.size+1+1,0)=I 1:=h3.cell 0;have y1:W.cell? (w.heap.size+1+1,1)=I 9:=h3.cell 1;have y2:W.cell? (w.heap.size+1+1,2)=some (.slice (w.heap.size+1,0) 1 1):=h3.cell 2;have y3:W.cell? (w.heap.size+1+1,3)=some (.slice none 0 0):=h3.cell 3;have yl:=h3.lt;have uR:Hid (Z 11 #[.agg #[I 1,I 9,.slice (w.heap.size+1,0) 1 1,.slice none 0 0]] W (FC W vp gt)):=XAA (J4 hsc (HG.out.below hb));have HB:=XAA hb;have H3:=XAA h3;clear hW h1 h2 h3 hb hsc;go_upto_region 5 with(go_at_call 11;(refine uR.out.mono ?_);rintro e w4 ⟨A,M,rfl,hP,hgt⟩;have HP:=XAA (And.intro hP hgt);have v0:=(hP.b.cell (p:=⟨w.heap.size+1+1,0,none⟩) yl).trans y0;have v1:=(hP.b.cell (p:=⟨w.heap.size+1+1,1,none⟩) yl).trans y1;have v2:=(hP.b.cell (p:=⟨w.heap.size+1+1,2,none⟩) yl).trans y2;have v3:=(hP.b.cell (p:=⟨w.heap.size+1+1,3,none⟩) yl).trans y3;clear hP hgt)
 have hz:Bz A M:=⟨λi _ h=>(by rw [HP.out.1.fr] at h;cases h),λd hd=>(by rw [HP.out.1.ds] at hd;cases hd)⟩;have AG:Hid (Z 7 #[(A.kb,0),.agg #[I 1,I 9,.slice (w.heap.size+1,0) 1 1,.slice none 0 0],I 0,I 500] w4 (A8 A M 500 w4)):=XAA (J3 (s:=vp) (cb:=w.heap.size+1) (pv:=.slice none 0 0) HP.out.1.km hz ⟨R,.inl ⟨R,R⟩⟩ (λg hg=>qce) (λx hx=>by cases hx) 0 500 qf qf (by rw [HP.out.1.s0];decide));clear hz;go_upto_region 6 with(go_at_call 7;(refine AG.out.mono ?_);rintro e w5 ⟨j,M',hj,rfl,h5,k5,z5,s5,r5,d5⟩;have H5:=XAA (And.intro hj (And.intro h5 (And.intro k5 (And.intro z5 (And.intro s5 (And.intro r5 d5))))));clear hj h5 k5 z5 s5 r5 d5)
 obtain⟨hj,h5,k5,z5,s5,r5,d5⟩:=H5.out;have hC:A.C=1:=HP.out.1.C;have hK:A.K 0=my:=by rw [HP.out.1.K];rfl
 obtain⟨r',hr,hd⟩:=d5 32 hC hK HP.out.1.n (SQ HP.out.1.plain);have hr0:dI A M' 0=false:=r5 qd 0 qd;have hr':r'=0:=by
  cases r' with
  |zero=>rfl
  |succ q=>rw [hd.runs hK] at hr0;cases hr0
 subst hr';obtain⟨-,hds,im⟩:=hd.ends hK;have hs5:M'.s<=30000:=by have:=HP.out.1.s0;omega
 have Ni:Hid (Z 16 #[(A.kb,0)] w5 λe w'=>∃g c,e=.returned (.slice (some ⟨g,0,none⟩) 1 c)/\w'.cell? ⟨g,4,none⟩=some (.bool false)/\g<w'.heap.size/\Below w5 w5 w'):=XAA ((X1 h5 hs5).mono λe w' ⟨v,e1,ho,hb⟩=>by
  have h0:=(own_base ho).1
  rw [im] at h0
  have h0:w'.ownsRow 0 68 5 v (0+1) _:=h0
  obtain⟨g,cap,e2⟩:=ownsRow_succ h0
  subst e2
  exact⟨g,cap,e1,(kU h0 (j:=4) R).1,cO h0 R,hb⟩)
 have MY:Hid (∀V,Below w5 w5 V->Z 17 #[(A.kb,0)] V λe w'=>∃B c,e=.returned (.slice B 3 c)/\Below V V w'):=XAA λV hV=>(XT (h5.below hV) hs5 z5.dl).mono λe w' ⟨B,c,e1,hb⟩=>⟨B,c,by rw [e1,hds],hb⟩;clear hj h5 k5 z5 s5 r5 d5 hd hr hr0 hds im;go_wp2_with (first|(go_at_call 16;refine Ni.out.mono ?_;rintro e w6 ⟨g,c,rfl,hc6,je,hb6⟩;have dw:=XAA hb6;clear hb6)|(go_at_call 17;refine(MY.out _ dw.out).mono ?_;rintro e w7 ⟨B,c2,rfl,hb7⟩;have hc7:=(hb7.cell (p:=⟨g,4,none⟩) je).trans hc6;have hl7:=XAH je hb7.size;have oy:=XAA hb7;clear hb7));go_ret;obtain⟨-,h5,k5,-⟩:=H5.out;have hgn:=((h5.below dw.out).below oy.out).gn.1;rw [HP.out.2] at hgn;exact⟨rfl,Gs HG.out hgn (HB.out.trans (HP.out.1.b.mono HB.out.size)) (λq hq h0=>HP.out.1.old q (XAH hq HB.out.size) h0) ((k5.trans (KF.below [] _ dw.out)).trans (KF.below [] _ oy.out))⟩
structure xX(A:KA)(M:KS)(W:World)(q:Nat)(wr:World)(M':KS):Prop where
 km:KM A wr M'
 kf:KF [] M.cl M'.cl W wr
 z:Bz A M'
 s:M'.s<=15*q
theorem GR(f:Nat->Bool):∀n,ja f n<=n
 |0=>XAB _
 |n+1=>by show ja f n+_<=_;have:=GR f n;split<;>omega
theorem LS{A:KA}{M M':KS}{W w1 w2 w3:World}{s:Sc}{t:TypeId}{q:Nat}(hg:ak W 0 t il)(hX:KM A w1 M/\xQ s A M/\Below W W w1/\(∀q,q<W.heap.size->q≠0->M.cl q=0))(hgt:A.gt=t)(b:Below w1 w1 w2)(h:xX A M w2 q w3 M'):ak w3 0 t il/\Below W W w3:=by
 obtain⟨hkm,-,hb,ho⟩:=hX;have h3:ak w3 0 t il:=by rw [<-hgt];exact h.km.gn.1
 exact⟨h3,Gs hg h3 (hb.trans (b.mono hb.size)) ho h.kf⟩
theorem aan(W:World)(t:TypeId)(hg:ak W 0 t il)(A:Option Addr)(m c:Nat)(hmc:m<=c)(hc:c<=9223372036854775807)
 (hr:0<m->∃g off,A=some ⟨g,off,none⟩/\g<W.heap.size/\∀j,j<m->∃u:Nat,u<256/\W.cell? (g,off+j)=some (.int .u8 (u:Int))):
  Z 3 #[.slice A m c] W λe W'=>e=.returned (.bool true)/\Below W W W':=by
 have HG:=XAA hg;have MR:=XAA (XH W hg A m c hmc hc hr);clear hg hr;go_enter func3,ntmps3;go_upto_region 2 with(go_at_call 4;refine MR.out.mono ?_;rintro e w4 ⟨cb,pv,s,Am,M,he,hkm,hnf,hb,hold,hpv,hpo,hsc,hgt⟩;obtain⟨B,cc,rfl⟩:=lQ hpv;obtain⟨np,hnp⟩:=Xq s.P.length;rw [hnp] at he hpv hpo;have he:e=.returned (.tuple #[(Am.kb,0),.agg #[nV s.C,nV s.n,.slice (cb,0) s.C s.C,.slice B np cc],.bool true]):=he;subst he;have HX:=XAA (And.intro hkm (And.intro hnf (And.intro hb (And.intro hold (And.intro hpv (And.intro hpo (And.intro hsc hgt)))))));have xB:=XAA hnp;clear hkm hnf hb hold hpv hpo hsc hgt hnp)
 go_upto_region 4 with fail
 refine bg (λW1 hW=>?_);have hbk:ak W1 w4.heap.size 27 #[nV s.C,nV s.n,.slice (cb,0) s.C s.C,.slice B np cc]:=qdt
 have hb1:Below w4 w4 W1:=qbq;have oA:=XAA hbk;have HB1:=XAA hb1;have HI:Hid (xX Am M W1 0 W1 M):=XAA (by
  obtain⟨hkm,hnf,-⟩:=HX.out
  exact⟨hkm.below hb1,KF.refl [] M.cl _,⟨λi _ h=>(by rw [hnf.fr] at h;cases h),λd hd=>(by rw [hnf.ds] at hd;cases hd)⟩,by rw [hnf.s0];exact XAJ _⟩)
 have HZ0:Hid (M.cl w4.heap.size=0):=XAA (HX.out.1.new _ (XAB _));have hsn:Am.ae.n=s.n:=HX.out.2.1.n;have Fk:=XAA hsn;have hn2:s.n<=1024:=HX.out.2.2.2.2.2.2.1.n2;clear hW hbk hb1 hsn;go_wp2;go_loopw [6,7,8,9,10,11] (λi _ _ _ _ _ wr=>∃(q:Nat)(M':KS),i=I q/\q<=150/\xX Am M W1 q wr M') (λi _ _ _ _ _ _=>150-(intOf i).toNat)
 case atStart=>exact⟨0,M,R,XAJ _,HI.out⟩
 case round=>
  obtain⟨q,M',rfl,hq,hI⟩:=hrel;have HJ:=XAA hI;have hblk:ak wr w4.heap.size 27 #[nV s.C,nV s.n,.slice (cb,0) s.C s.C,.slice B np cc]:=(hI.kf.blk _ oA.out.lt ql HZ0.out).trans oA.out;have y0:wr.cell? (w4.heap.size,0)=some (nV s.C):=ak.cell (w:=wr) hblk 0;have y1:wr.cell? (w4.heap.size,1)=I s.n:=ak.cell (w:=wr) hblk 1;have y2:wr.cell? (w4.heap.size,2)=some (.slice (cb,0) s.C s.C):=ak.cell (w:=wr) hblk 2;have y3:wr.cell? (w4.heap.size,3)=some (.slice B np cc):=ak.cell (w:=wr) hblk 3;have ylt:=ak.lt (w:=wr) hblk;have N2:=XAA (And.intro y0 (And.intro y2 y3));obtain⟨S,hS⟩:=hI.km.zn.all.ok.seg;have HC:=XAA (hI.km.zn.all.ok.count hS);have HS:=XAA hS;have HB0:=XAA (show wr.heap[0]? =w4.heap[0]? from(show wr.heap[0]? =_ from hI.km.gn.1).trans (show w4.heap[0]? =_ from HX.out.1.gn.1).symm);clear hI hblk hS y0 y2 y3;by_cases hc:q<150
  .go_upto_region 8 with fail
   go_wp2;generalize Value.bool (decide ((q:Int)<150))=v21;go_loopw [7,8,9,10,11] (λn p _ _ _ V=>∃x:Nat,p=I x/\x<=s.n/\n=I ((ja (iB M'.T (bC Am.ae.C M'.L) S) x:Nat):Int)/\Below wr wr V) (λ_ p _ _ _ _=>s.n-(intOf p).toNat)
   case atStart=>exact⟨0,R,XAJ _,R,XAC _ _⟩
   case round=>
    obtain⟨x,rfl,hx,rfl,hV⟩:=hrel;have HV:=XAA hV;have z1:=(hV.cell (p:=⟨w4.heap.size,1,none⟩) ylt).trans y1;have gv:=XAH ylt hV.size;clear hV;by_cases hl:x<s.n
    .have NZ:=XAA (Yp (HJ.out.km.below HV.out) S HS.out x qd);have b1:(x:Int)<(s.n:Int):=by omega
     obtain⟨tb,htb⟩:=Xq (iB M'.T (bC Am.ae.C M'.L) S x);have HN:Hid (ja (iB M'.T (bC Am.ae.C M'.L) S) (x+1)=ja (iB M'.T (bC Am.ae.C M'.L) S) x+(if tb=true then 1 else 0)):=XAA (by rw [<-htb];rfl);have NY:=XAA htb;have xq:=GR (iB M'.T (bC Am.ae.C M'.L) S) x;clear htb;go_upto_region 12 with(go_at_call 5;refine NZ.out.mono ?_;rintro e wv ⟨hb,g1,g2,is,rfl,his⟩;have his:=(his (by rw [Fk.out];exact hl)).trans NY.out;subst his;have EL:=XAA hb;clear hb)
     cases is
     .go_wp2;go_roundw
      case rel=>exact⟨x+1,qbf,hl,by rw [HN.out];rfl,HV.out.trans (EL.out.mono HV.out.size)⟩
      case measure=>simp [intOf];omega
     .go_wp2;go_roundw
      case rel=>exact⟨x+1,qbf,hl,by rw [HN.out];go_num,HV.out.trans (EL.out.mono HV.out.size)⟩
      case measure=>simp [intOf];omega
    .obtain rfl:x=s.n:=by omega
     have E0:=XAA (HJ.out.km.below HV.out);have hL:∀r:Nat,dJ (jb M'.T) S+(bC Am.ae.C M'.L).length=r->ja (iB M'.T (bC Am.ae.C M'.L) S) s.n+r=s.n:=by rintro r rfl;have:=HC.out;rw [Fk.out] at this;exact this
     obtain⟨r,hr⟩:=Xq (dJ (jb M'.T) S+(bC Am.ae.C M'.L).length);have hL:=hL r hr;have Nr:Hid (∀V',Below wr wr V'->Z 6 #[(Am.kb,0)] V' λe w'=>e=.returned (nV r)/\Below V' V' w'):=XAA (by rw [<-hr];exact λV' hV'=>X4 (E0.out.below hV') S HS.out);obtain⟨k,hk⟩:=Xq (ja (iB M'.T (bC Am.ae.C M'.L) S) s.n);rw [hk] at hL ⊢;clear hr hk;have b2:(k:Int)+(r:Int)=(s.n:Int):=qd
     go_upto_region 14 with fail
     (refine ba (wr.heap.size) (λhxc aA hxh hxn=>?_);(repeat (first|go_big_quiet_step ((go_at_call 6;exact dy (Nr.out _ (Ext.below _))))|quiet_step ((go_at_call 6;exact dy (Nr.out _ (Ext.below _))))));refine XAG ?_;clear hxc aA hxh hxn;intro w1 hb1 hz1 hc1 hf1)
     have z1':=(hc1 w4.heap.size 1 gv).trans z1;have xe:=XAH gv hz1;obtain⟨hy0,hy2,hy3⟩:=N2.out;have tV:=HV.out;have z0':=(hc1 w4.heap.size 0 gv).trans ((tV.cell (p:=⟨w4.heap.size,0,none⟩) ylt).trans hy0);have z2':=(hc1 w4.heap.size 2 gv).trans ((tV.cell (p:=⟨w4.heap.size,2,none⟩) ylt).trans hy2);have z3':=(hc1 w4.heap.size 3 gv).trans ((tV.cell (p:=⟨w4.heap.size,3,none⟩) ylt).trans hy3);have aS:=XAA (E0.out.below hb1);have xJ:=XAA (tV.trans (hb1.mono tV.size));have AG:Hid (Z 7 #[(Am.kb,0),.agg #[nV s.C,nV s.n,.slice (cb,0) s.C s.C,.slice B np cc],I q,I 1] w1 (A8 Am M' 1 w1)):=XAA (by
      obtain⟨hkm,hnf,hbw,hold,hpv,hpo,hsc,hgt⟩:=HX.out
      have hp1:w1.ownsRow 0 3 1 (.slice B np cc) np (s.P.map nV):=cM hpv λg hg=>(by
       have hgl:=cO hpv hg
       have hw4:=HB1.out.size
       by_cases e:g=0
       .subst e
        exact(xJ.out.block 0 qd).trans HB0.out
       .exact(xJ.out.block g (by have:=HJ.out.kf.size;omega)).trans ((HJ.out.kf.blk g qd ql (hpo g hg e)).trans (HB1.out.block g hgl)))
      have hz:=xB.out
      subst hz
      exact J3 (s:=s) (cb:=cb) (pv:=.slice B s.P.length cc) aS.out HJ.out.z hp1 (λg hg e=>HJ.out.kf.cls g (by have:=cO hpv hg;have:=HB1.out.size;omega) ql (hpo g hg e)) hsc.pk q 1 qd qf qkc)
     clear z1 gv hz1 hc1 hf1 hb1 hy0 hy2 hy3 tV y1 ylt;go_upto_region 16 with fail
     go_upto_region 17 with(go_at_call 7;(refine AG.out.mono ?_);rintro e w5 ⟨j,M2,hj,rfl,h5,k5,z5,s5,r5,d5⟩;have H5:=XAA (And.intro hj (And.intro h5 (And.intro k5 (And.intro z5 s5))));clear hj h5 k5 z5 s5 r5 d5)
     .have hj:(j:Int)=0:=eq_of_beq ‹((j:Int)==0)=true›;obtain rfl:j=0:=by omega
      obtain⟨hX1,hX2,vK,vL,-,-,-,hgt⟩:=HX.out;obtain⟨-,h5,k5,z5,s5⟩:=H5.out;have IB:xX Am M W1 q w5 M2:=⟨h5,(HJ.out.kf.trans (KF.below [] _ xJ.out)).trans k5,z5,qkc⟩;have HF:=XAA (LS HG.out ⟨hX1,hX2,vK,vL⟩ hgt HB1.out IB);clear hX1 hX2 vK vL hgt h5 k5 z5 s5 IB hj;go_wp2_with (go_at_call 8;refine(JZ _ HF.out.1).mono ?_;rintro e w6 ⟨rfl,hb6⟩;have dw:=XAA hb6;clear hb6);go_ret;exact⟨R,HF.out.2.trans (dw.out.mono HF.out.2.size)⟩
     .have hj:¬((j:Int)=0):=ne_of_beq_false ‹((j:Int)==0)=false›;obtain⟨h1,h5,k5,z5,s5⟩:=H5.out;exact⟨⟨q+1,M2,qbf,hc,h5,(HJ.out.kf.trans (KF.below [] _ xJ.out)).trans k5,z5,qkc⟩,by simp [intOf];omega⟩
  .have hq':q=150:=by omega
   obtain⟨hX1,hX2,vK,vL,-,-,-,hgt⟩:=HX.out;have HF:=XAA (LS HG.out ⟨hX1,hX2,vK,vL⟩ hgt HB1.out HJ.out);clear hX1 hX2 vK vL hgt;go_wp2_with (go_at_call 8;refine(JZ _ HF.out.1).mono ?_;rintro e w6 ⟨rfl,hb6⟩;have dw:=XAA hb6;clear hb6);go_ret;exact⟨R,HF.out.2.trans (dw.out.mono HF.out.2.size)⟩
end Go.Proofs.YtedefgjfgdcfdaaGreatDoor
