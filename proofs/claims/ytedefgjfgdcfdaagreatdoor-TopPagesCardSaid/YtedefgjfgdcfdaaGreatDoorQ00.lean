/- Walks and laws for TopPages. -/
import Derived.Test.YtedefgjfgdcfdaaGreatDoorProg
import Derived.WalkKit
import Derived.Deep.DeepMust
import Derived.WalkSpells
import Derived.WalkLawsBesides
import Derived.Handy
import Derived.Lib.Hide
import Derived.Deep.QuietTactic
import Derived.BigQuiet
namespace Go.Proofs.YtedefgjfgdcfdaaGreatDoor
open Go.RowKit Go.Proofs.Tryz
set_option maxRecDepth 100000
set_option maxHeartbeats 4000000
abbrev XAA:=@Lib.hid
abbrev XAB:=@Nat.le_refl
abbrev XAC:=@Below.refl
abbrev XAD:=@if_neg
abbrev XAE:=@if_pos
abbrev XAF:=@Calls.mono
abbrev XAG:=@wpQuiet_nil
abbrev XAH:=@Nat.lt_of_lt_of_le
abbrev XAI:=@bodyPost_ret
abbrev XAJ:=@Nat.zero_le
abbrev XAK:=@congrArg
abbrev XAL:=@Nat.le_trans
abbrev XAM:=@IntWalk.i64_in
abbrev XAN:=@Below.heap_setCell
abbrev XAO:=@List.getElem?_eq_getElem
abbrev XAP:=@World.cell?_of_block
abbrev XAQ:=@Tryz.underlying210
abbrev XAR:=@decide_eq_true
abbrev XAS:=@decide_eq_false
abbrev XAT:=@World.size_alloc
abbrev XAU:=@Nat.le_succ
abbrev XAV:=@Nat.zero_add
abbrev XAW:=@Tryz.underlying3
abbrev XAX:=@Below.heap_alloc
abbrev XAY:=@List.length_map
abbrev XAZ:=@List.length_append
abbrev XAa:=@List.getElem?_map
abbrev XAb:=@Int.eq_ofNat_of_zero_le
abbrev XAc:=@Nat.lt_or_ge
abbrev XAd:=@List.getElem?_eq_none
abbrev XAe:=@List.mem_append
abbrev XAf:=@beq_eq_false_iff_ne
abbrev XAg:=@Nat.lt_trans
abbrev XAh:=@World.frozen?_of_block
abbrev XAi:=@List.mem_of_getElem?
abbrev XAj:=@Nat.mod_lt
abbrev XAk:=@List.length_set
abbrev XAl:=@Option.some.inj
abbrev XAm:=@results_none
abbrev XAn:=@Tryz.func206
abbrev XAo:=@Tryz.ntmps206
abbrev XAp:=@callsIn_wide
abbrev XAr:=@Nat.eq_zero_or_pos
abbrev XAs:=@Nat.le_of_eq
abbrev XAt:=@Bool.and_eq_true
abbrev XAu:=@List.mem_range
abbrev XAv:=@Tryz.func336
abbrev XAw:=@Tryz.ntmps336
abbrev XAx:=@List.nil_append
abbrev XAy:=@Tryz.underlying4
abbrev XAz:=@Array.getElem?_eq_none
abbrev XA0:=@List.length_cons
abbrev XA1:=@List.mem_cons_self
abbrev XA2:=@List.mem_singleton
abbrev XA3:=@rounds_succ
abbrev XA4:=@info_parts
abbrev XA5:=@List.ext_getElem?
abbrev XA6:=@Tryz.isAgg4
abbrev XA7:=@Tryz.sizeOf4
abbrev XA8:=@Tryz.zeroValue4
abbrev XA9:=@World.cell?_alloc_lt
abbrev XA_:=@List.cons_append
abbrev XBA:=@List.getD_eq_getElem?_getD
abbrev XBB:=@List.map_append
abbrev XBC:=@List.mem_cons_of_mem
abbrev XBD:=@List.mem_cons
abbrev XBE:=@List.length_nil
abbrev XBF:=@Array.getElem?_setIfInBounds_ne
abbrev XBG:=@Int.le_refl
abbrev XBH:=@Int.emod_nonneg
abbrev XBI:=@Tryz.isAgg3
abbrev XBJ:=@Tryz.sizeOf3
abbrev XBK:=@List.flatMap_cons
abbrev XBL:=@Nat.mul_comm
abbrev XBM:=@Bool.eq_iff_iff
abbrev XBN:=@List.eq_nil_of_length_eq_zero
abbrev XBO:=@Array.getElem?_toList
abbrev XBP:=@bne_iff_ne
abbrev XBQ:=@Int.toNat_natCast
abbrev XBR:=@List.mem_map
abbrev XBS:=@wpQuiet_step
abbrev XBT:=@Tryz.zeroValue3
abbrev XBU:=@Nat.not_le
abbrev XBV:=@List.length_take
abbrev XBW:=@Int.emod_lt_of_pos
abbrev XBX:=@List.getElem?_range
abbrev XBY:=@of_decide_eq_true
abbrev XBZ:=@IntWalk.wrap64_in
abbrev XBa:=@Tryz.underlying0
abbrev XBb:=@Tryz.isAgg0
abbrev XBc:=@Tryz.sizeOf0
abbrev XBd:=@Tryz.zeroValue0
abbrev XBe:=@Oper.semAt_some
abbrev XBf:=@List.size_toArray
abbrev XBg:=@Array.replicate_succ
abbrev XBh:=@Array.replicate_zero
abbrev XBi:=@List.push_toArray
abbrev XBj:=@List.append_toArray
abbrev XBk:=@World.ownsRow_nil
abbrev XBl:=@Tryz.underlying25
abbrev XBm:=@List.getElem?_set
abbrev XBn:=@List.not_mem_nil
abbrev XBo:=@Tryz.underlying307
abbrev XBp:=@Tryz.func265
abbrev XBr:=@Tryz.func166
abbrev XBs:=@Tryz.ntmps166
abbrev XBt:=@List.drop_eq_getElem_cons
abbrev XBu:=@List.all_eq_true
abbrev XBv:=@run_underlying
abbrev XBw:=@List.map_cons
abbrev XBx:=@Tryz.func267
abbrev XBy:=@List.getElem?_append_right
abbrev XBz:=@List.range_succ
abbrev XB0:=@List.getElem?_append_left
abbrev XB1:=@List.append_assoc
abbrev XB2:=@Tryz.underlying125
abbrev XB3:=@Tryz.func211
abbrev XB4:=@Tryz.ntmps211
abbrev XB5:=@Nat.add_zero
abbrev XB6:=@List.length_drop
abbrev XB7:=@decide_eq_true_eq
abbrev XB8:=@Array.all_eq_true_iff_forall_mem
abbrev XB9:=@Option.getD_some
abbrev XB_:=@mem_ready
abbrev XCA:=@List.take_of_length_le
abbrev XCB:=@wp_loop_rounds
abbrev XCC:=@Tryz.underlying249
abbrev XCD:=@List.length_replicate
abbrev XCE:=@Tryz.func263
abbrev XCF:=@Tryz.func266
abbrev XCG:=@Tryz.func107
abbrev XCH:=@Tryz.ntmps107
abbrev XCI:=@List.any_eq_true
abbrev XCJ:=@List.flatMap_append
abbrev XCK:=@Nat.succ_mul
abbrev XCL:=@Nat.le_add_right
abbrev XCM:=@Tryz.func144
abbrev XCN:=@Tryz.ntmps144
abbrev XCO:=@Tryz.underlying263
abbrev XCP:=@getD_set_ne
abbrev XCQ:=@World.block_lt_of_cell?
abbrev XCR:=@Array.getElem?_setIfInBounds_self_of_lt
abbrev XCS:=@Bool.not_true
abbrev XCT:=@Int.tmod_eq_emod_of_nonneg
abbrev XCU:=@Exit.noGoto_ret
abbrev XCV:=@Tryz.func151
abbrev XCW:=@Tryz.ntmps151
abbrev XCX:=@Bool.false_ne_true
abbrev XCY:=@MapKept.run_getObj_map
abbrev XCZ:=@or_false
abbrev XCa:=@Int.mul_nonneg
abbrev XCb:=@run_makeMap
abbrev XCc:=@Maps.int_keyed
abbrev XCd:=@Tryz.func237
abbrev XCe:=@Tryz.func257
abbrev XCf:=@Tryz.ntmps257
abbrev XCg:=@Nat.le_of_lt
abbrev XCh:=@List.nodup_cons
abbrev XCi:=@List.mem_flatMap
abbrev XCj:=@List.getElem_map
abbrev XCk:=@bodyPost_end
abbrev XCl:=@Tryz.func175
abbrev XCm:=@ready_mono
abbrev XCn:=@Nat.mod_eq_of_lt
abbrev XCo:=@Nat.two_pow_pos
abbrev XCp:=@Nat.pow_succ
abbrev XCr:=@below_drewN
abbrev XCs:=@wpOp_mono
abbrev XCt:=@Bool.true_and
abbrev XCu:=@List.getElem_mem
abbrev XCv:=@Int.lt_or_le
abbrev XCw:=@Tryz.func305
abbrev XCx:=@Tryz.ntmps305
abbrev XCy:=@Tryz.func318
abbrev XCz:=@Tryz.ntmps318
abbrev XC0:=@IntKind.wrap_u64
abbrev XC1:=@Tryz.func286
abbrev XC2:=@Tryz.ntmps286
abbrev XC3:=@MapKept.run_findKey
abbrev XC4:=@cond_false
abbrev XC5:=@Tryz.isAgg25
abbrev XC6:=@Tryz.sizeOf25
abbrev XC7:=@Tryz.underlying54
abbrev XC8:=@List.map_map
abbrev XC9:=@Nat.min_eq_left
abbrev XC_:=@Nat.not_lt_zero
abbrev XDA:=@List.getElem?_set_self
abbrev XDB:=@Tryz.func13
abbrev XDC:=@Tryz.ntmps13
abbrev XDD:=@Tryz.func112
abbrev XDE:=@Tryz.ntmps112
abbrev XDF:=@Int.ediv_nonneg
abbrev XDG:=@Int.ediv_mul_le
abbrev XDH:=@Tryz.underlying344
abbrev XDI:=@Tryz.ntmps175
abbrev XDJ:=@Tryz.func60
abbrev XDK:=@Tryz.ntmps60
abbrev XDL:=@Nat.sub_self
abbrev XDM:=@Nat.zero_mod
abbrev XDN:=@Array.getElem?_setIfInBounds
abbrev XDO:=@Array.ext_getElem?
abbrev XDP:=@Nat.lt_irrefl
abbrev XDQ:=@Array.getElem?_eq_some_iff
abbrev XDR:=@List.take_succ_eq_append_getElem
abbrev XDS:=@List.contains_iff_mem
abbrev XDT:=@List.append_nil
abbrev XDU:=@List.getElem?_drop
abbrev XDV:=@Sem.run_bind
abbrev XDW:=@Sem.run_pure
abbrev XDX:=@Tryz.func63
abbrev XDY:=@Tryz.ntmps63
abbrev XDZ:=@List.getElem?_eq_some_iff
abbrev XDa:=@List.getElem?_take_of_lt
abbrev XDb:=@Int.natCast_add
abbrev XDc:=@Tryz.func244
abbrev XDd:=@Tryz.func255
abbrev XDe:=@Tryz.ntmps255
abbrev XDf:=@Tryz.func256
abbrev XDg:=@Tryz.ntmps256
abbrev XDh:=@Tryz.func258
abbrev XDi:=@Tryz.func259
abbrev XDj:=@Tryz.func260
abbrev XDk:=@Tryz.ntmps263
abbrev XDl:=@Tryz.ntmps267
abbrev XDm:=@Nat.mul_le_mul
abbrev XDn:=@Tryz.zeroValue25
abbrev XDo:=@Prod.mk.injEq
abbrev XDp:=@Nat.add_mod_right
abbrev XDr:=@List.mem_of_mem_take
abbrev XDs:=@callsIn_of_wp
abbrev XDt:=@Tryz.func94
abbrev XDu:=@IntWalk.i64_left
abbrev XDv:=@Tryz.func125
abbrev XDw:=@Tryz.ntmps125
abbrev XDx:=@Nat.ne_of_lt
abbrev XDy:=@Tryz.func99
abbrev XDz:=@Tryz.ntmps99
abbrev XD0:=@Tryz.func115
abbrev XD1:=@Tryz.ntmps115
abbrev XD2:=@Tryz.func131
abbrev XD3:=@Tryz.ntmps131
abbrev XD4:=@Tryz.func165
abbrev XD5:=@Tryz.ntmps165
abbrev XD6:=@Tryz.underlying155
abbrev XD7:=@Tryz.func103
abbrev XD8:=@Tryz.ntmps103
abbrev XD9:=@World.setCell_alloc_past
abbrev XD_:=@Tryz.func184
abbrev XEA:=@Tryz.ntmps184
abbrev XEB:=@Nat.div_add_mod
abbrev XEC:=@Nat.div_eq_of_lt
abbrev XED:=@Nat.mul_le_mul_right
abbrev XEE:=@Array.size_setIfInBounds
abbrev XEF:=@List.getElem?_cons_succ
abbrev XEG:=@List.mem_filter
abbrev XEH:=@Option.map_some
abbrev XEI:=@Go.Lib.run_eql_slice_nil
abbrev XEJ:=@Tryz.underlying297
abbrev XEK:=@Bool.not_eq_true'
abbrev XEL:=@Bool.not_eq_true
abbrev XEM:=@World.cell?_setCell_other
abbrev XEN:=@Option.some.injEq
abbrev XEO:=@Tryz.underlying230
abbrev XEP:=@World.ownsRow_made
abbrev XEQ:=@List.length_range
abbrev XER:=@Nat.pow_le_pow_right
abbrev XES:=@Int.natCast_emod
abbrev XET:=@decide_eq_true_iff
abbrev XEU:=@Int.natCast_mul
abbrev XEV:=@Int.toNat_of_nonneg
abbrev XEW:=@List.mem_or_eq_of_mem_set
abbrev XEX:=@MapKept.run_checkKey
abbrev XEY:=@of_decide_eq_false
abbrev XEZ:=@Tryz.underlying364
abbrev XEa:=@WideAt.sameKey_self
abbrev XEb:=@List.mem_replicate
abbrev XEc:=@decide_eq_decide
abbrev XEd:=@Classical.byContradiction
abbrev XEe:=@Tryz.underlying64
abbrev XEf:=@Tryz.zeroValue54
abbrev XEg:=@Tryz.underlying93
abbrev XEh:=@Option.map_eq_some_iff
abbrev XEi:=@World.ownsRow.cellAt
abbrev XEj:=@List.Perm.append_left
abbrev XEk:=@List.nodup_range
abbrev XEl:=@World.cell?_setCell_same'
abbrev XEm:=@plainElem_int_inv
abbrev XEn:=@List.nodup_iff_pairwise_ne
abbrev XEo:=@List.getElem?_replicate
abbrev XEp:=@Array.length_toList
abbrev XEr:=@List.exists_cons_of_ne_nil
abbrev XEs:=@Array.replicate_append_replicate
abbrev XEt:=@Nat.two_pow_add_eq_or_of_lt
abbrev XEu:=@Go.ChangeMaps.heap_setBlock_other
abbrev XEv:=@List.eq_nil_iff_length_eq_zero
structure Va where
instance:CoeFun Va λ_=>Int->Value:=⟨λ_=>.int .i64⟩
def I:Va:=⟨⟩
structure Vb where
instance:CoeFun Vb λ_=>Int->Value:=⟨λ_=>.int .u64⟩
def J:Vb:=⟨⟩
structure Vc where
instance:CoeFun Vc λ_=>FuncId->Array Value->World->(Ending->World->Prop)->Prop:=⟨λ_=>Calls prog⟩
def Z:Vc:=⟨⟩
theorem Y{p:Prop}(h:p):Hid p:=Lib.hid h
instance(a b:Nat):CoeDep (Nat×Nat) (a,b) Addr:=⟨⟨a,b,none⟩⟩
instance(a b:Nat):CoeDep (Nat×Nat) (a,b) (Option Addr):=⟨some ⟨a,b,none⟩⟩
instance(a b:Nat):CoeDep (Nat×Nat) (a,b) Value:=⟨.pointer (some ⟨a,b,none⟩)⟩
instance:Coe World Nat:=⟨λw=>w.heap.size⟩
theorem R{α:Sort _}{a:α}:a=a:=rfl
theorem Xk{p:Prop}(h:p:=by repeat' (first|exact hh.cell _|apply And.intro)):p:=h
theorem Xl{p:Prop}(h:p:=by repeat' (first|exact hq.cell _|apply And.intro)):p:=h
theorem Xq{α:Type _}(a:α):∃x,a=x:=⟨a,rfl⟩
theorem Xr{P:Program}{f:FuncId}{a:Array Value}{w:World}{v:Ending}{Q:Ending->World->Prop}(c:Calls P f a w λe w'=>e=v/\w'=w)(k:Q v w):Calls P f a w Q:=c.mono λ_ _ h=>by rw [h.1,h.2];exact k
theorem Xe{P:Program}{fn:Func}{R:Ending->World->Prop}{x:Exit}{a:Act}{w:World}(k:R (.returned (.tuple #[])) w)(hx:x=.normal\/x=.ret:=by first|exact .inl rfl|exact .inr rfl)(hr:fn.results=#[]:=by rfl)(hd:a.defers=[]:=by rfl):bodyPost P fn R x a w:=by
 rcases hx with rfl|rfl
 .exact bodyPost_end (results_none hr _ _ _) hd k
 .exact bodyPost_ret (results_none hr _ _ _) hd k
theorem qa{p:Prop}(h:p:=by(repeat' (first|(with_reducible exact Below.refl _ _)|(with_reducible assumption)|(with_reducible refine Below.alloc ?_ ?_ _)|(with_reducible refine below_drewN ?_ _)|(with_reducible refine Below.drew ?_)|(with_reducible refine Below.setCell ?_ ?_ _)|(with_reducible refine bB ?_ (by with_reducible assumption))|go_size))):p:=h
theorem qb{p:Prop}(h:p:=by(repeat' (first|(with_reducible assumption)|(with_reducible refine Rws.drew ?_)|(with_reducible refine Fr.set ?_ _ _)))):p:=h
theorem qc{p:Prop}(h:p:=by(repeat' (first|(with_reducible exact hh)|(with_reducible refine SX.drew ?_)|(with_reducible refine SX.pPc ?_ _)|(with_reducible refine SX.nX ?_ _)|(with_reducible refine SX.zm ?_ _)|(with_reducible refine SX.ss ?_ _)|(with_reducible refine SX.mP ?_ _)|(with_reducible refine SX.ur ?_ _)|(with_reducible refine SX.wI ?_ _)|(with_reducible refine SX.lR ?_ _)|(with_reducible refine SX.pBack ?_ _)|(with_reducible refine SX.pH ?_ ?_)|(with_reducible refine SX.pT ?_ ?_)|(with_reducible refine SX.pF ?_ ?_)|(with_reducible refine SX.pK ?_ ?_)|(with_reducible refine SX.pN ?_ ?_)|(with_reducible assumption)))):p:=h
theorem qd{p:Prop}(h:p:=by omega):p:=h
theorem qe{p:Prop}(h:p:=by first|exact U6.wrap _|exact U6.zero|exact U6.one|exact U6.max|exact U6.cast (by assumption)|exact U6.cast hh.ok.H|exact U6.cast hh.ok.T|exact U6.cast hh.ok.F|exact U6.cast hh.ok.K|exact U6.cast hh.ok.N):p:=h
theorem qf{p:Prop}(h:p:=by decide):p:=h
theorem qg{p:Prop}(h:p:=by with_reducible assumption):p:=h
theorem qh{p:Prop}(h:p:=by kernel_rfl):p:=h
theorem qi{p:Prop}(h:p:=by(first|(go_cell;done)|(simp [go_sem];done)|(simp [go_sem,World.cell?_alloc_past];done)|(simp [World.cell?,World.frozen?,World.alloc,go_sem];done))):p:=h
theorem qj{p:Prop}(h:p:=by simp;omega):p:=h
theorem qk{p:Prop}(h:p:=by simp [Value.oneCell']):p:=h
theorem ql{p:Prop}(h:p:=by simp):p:=h
theorem qm{p:Prop}(h:p:=by assumption):p:=h
theorem qn{p:Prop}(h:p:=by { have:=hh.cell 24;rw [show(pU mb c (must false σ1).t (must false σ1).bad)[24]? =some (.bool (σ1.bad||true)) from R,Bool.or_true] at this;exact this }):p:=h
theorem qo{p:Prop}(h:p:=by funext E;simp [aZ]):p:=h
theorem qp{p:Prop}(h:p:=by { have:=hh.cell 24;rw [show(pU mb c (must true σ1).t (must true σ1).bad)[24]? =some (.bool (σ1.bad||false)) from R,Bool.or_false,HB.out] at this;exact this }):p:=h
theorem qq{p:Prop}(h:p:=by refine⟨_,R,?_⟩;(repeat' (first|(with_reducible exact ak.new _ _ _)|(with_reducible exact ak.new2 _ _ _ _)|(with_reducible refine ak.drew ?_)|(with_reducible refine ak.alloc ?_ _)|(refine HT3.out _ _ ?_)|(refine HT4.out _ _ ?_)));done):p:=h
theorem qr{p:Prop}(h:p:=by first|assumption|exact hh.ok.H|exact hh.ok.T|exact hh.ok.F|exact hh.ok.K|exact hh.ok.N):p:=h
theorem qs{p:Prop}(h:p:=by(repeat' (first|(with_reducible exact HS.out)|(with_reducible exact HG.out)|(with_reducible exact s_.out)|(with_reducible refine du.drew ?_)|(with_reducible refine du.alloc ?_ _)));done):p:=h
theorem qt{p:Prop}(h:p:=by obtain⟨av,e6⟩:=E6.out;rw [e6];exact⟨R,R,R,R⟩):p:=h
theorem qu{p:Prop}(h:p:=by rfl):p:=h
theorem qv{p:Prop}(h:p:=by have:U64=18446744073709551616:=rfl;omega):p:=h
theorem qw{p:Prop}(h:p:=by unfold maxLen;omega):p:=h
theorem qx{p:Prop}(h:p:=by show(aL _ k _ k).busy=_;rw [b_]):p:=h
theorem qy{p:Prop}(h:p:=by show(aL _ k _ k).next=_;rw [b_]):p:=h
theorem qz{p:Prop}(h:p:=by obtain⟨M6,h1,h2,h3,h4⟩:=H3.out.tail hk tX hav hm hcap hcl hrow iq;exact⟨M6,Y (by rw [hw6];exact h1),Y (by rw [hw6];exact h2),Y h3,Y ⟨_,h4⟩⟩):p:=h
theorem qba{p:Prop}(h:p:=by obtain⟨e1,e2⟩:=GW br.out p_.out oJ.out hp1 bI;exact⟨_,Y e1,Y e2,lu,ru,mg,Y ⟨jk,oJ.out⟩,Y ⟨tp.out.only bI hne,tj.out⟩⟩):p:=h
theorem qbb{p:Prop}(h:p:=by simp [results,results166,go_sem,kc8]):p:=h
theorem qbc{p:Prop}(h:p:=by have:=(Own.below hr.ao ((Below.refl _ wr).alloc (Nat.le_refl _) o)).1;rw [iV] at this;rw [<-HV5.out,<-HL.out];exact this):p:=h
theorem qbd{p:Prop}(h:p:=by have:=hM.c.c1;rw [beq_eq_false_iff_ne];unfold Ch.words;omega):p:=h
theorem qbe{p:Prop}(h:p:=by first|exact IV hh.c _|exact Lc hh.c _|exact Ii hh.c _):p:=h
theorem qbf{p:Prop}(h:p:=by go_num):p:=h
theorem qbg{p:Prop}(h:p:=by simpa [Value.ownBlock] using hg'):p:=h
theorem qbh{p:Prop}(h:p:=by show n<=1000000;omega):p:=h
theorem qbi{p:Prop}(h:p:=by rw [show(must true σ1).bad=(σ1.bad||false) from R,HB.out];decide):p:=h
theorem qbj{p:Prop}(h:p:=by simpa [World.setCell] using h.size):p:=h
theorem qbk{p:Prop}(h:p:=by go_size):p:=h
theorem qbl{p:Prop}(h:p:=by simp only [eu,e1,hq,cond_false,Bool.not_false,hpk,hB];rw [if_neg (by rw [show(must true σ1).bad=(σ1.bad||false) from R,HB.out];decide),Int.toNat_natCast,hc];simp [hp,either,HT1.out]):p:=h
theorem qbm{p:Prop}(h:p:=by simp only [eu,e1,hq,cond_false,Bool.not_false,hpk,hB];rw [if_neg (by rw [show(must true σ1).bad=(σ1.bad||false) from R,HB.out];decide),Int.toNat_natCast,hc];rw [if_pos R,hp];rfl):p:=h
theorem qbn{p:Prop}(h:p:=by obtain⟨M6,h1,h2,h3,h4⟩:=H0.out.tail hk HA.out hav hm hcap hcl hrow iq;exact⟨M6,Y (by rw [hw6];exact h1),Y (by rw [hw6];exact h2),Y h3,Y ⟨_,h4⟩⟩):p:=h
theorem qbo{p:Prop}(h:p:=by first|exact IV hh.co _|exact Lc hh.co _|exact Ii hh.co _):p:=h
theorem qbp{p:Prop}(h:p:=by show _=_;dsimp only;rw [b_]):p:=h
theorem qbq{p:Prop}(h:p:=by rw [hW];exact(Below.refl _ _).alloc (Nat.le_refl _) _):p:=h
theorem qbr{p:Prop}(h:p:=by first|exact(show Nx 50 by decide)|exact(show Nx 57 by decide)|exact kI _ (by decide) (by decide)):p:=h
theorem qbs{p:Prop}(h:p:=by rw [hw0];exact(((Below.refl _ _).alloc (Nat.le_refl _) _).alloc (by simp) _).alloc (by simp;omega) _):p:=h
theorem qbt{p:Prop}(h:p:=by simp [World.setCell]):p:=h
theorem qbu{p:Prop}(h:p:=by simp [results,results211,go_sem]):p:=h
theorem qbv{p:Prop}(h:p:=by show(aL _ k _ k).busy=_;rw [b_];exact b7):p:=h
theorem qbw{p:Prop}(h:p:=by show(aL _ k _ k).next=_;rw [b_];exact n7):p:=h
theorem qbx{p:Prop}(h:p:=by simp only [nG,hq,hb,Int.toNat_natCast,hc];((repeat' split)<;>(first|rfl|(exfalso;omega)|(exfalso;simp_all;done)|(exfalso;simp_all;omega)))):p:=h
theorem qby{p:Prop}(h:p:=by simp only [iO,hq,hb,Int.toNat_natCast,hc];((repeat' split)<;>(first|rfl|(exfalso;omega)|(exfalso;simp_all;done)|(exfalso;simp_all;omega)))):p:=h
theorem qbz{p:Prop}(h:p:=by show M.cl w.heap.size∉_;rw [hz0];decide):p:=h
theorem qca{p:Prop}(h:p:=by show M6.s+1<=_;rw [Y6.out.s];have:=Z3.out;omega):p:=h
theorem qcb{p:Prop}(h:p:=by have:=hr.km.fr.2;show c1 A.fb≠_;rw [show c1 A.fb=10 from this];omega):p:=h
theorem qcc{p:Prop}(h:p:=by simp only [nC,hq,hb,Int.toNat_natCast];((repeat' split)<;>(first|rfl|(exfalso;omega)|(exfalso;simp_all;done)|(exfalso;simp_all;omega)))):p:=h
theorem qcd{p:Prop}(h:p:=by show w.heap.size<=w.heap.size+1+1;omega):p:=h
theorem qce{p:Prop}(h:p:=by cases hg):p:=h
theorem qcf{p:Prop}(h:p:=by { rw [<-HB.out];exact hh.cell 24 }):p:=h
theorem qcg{p:Prop}(h:p:=by rw [show σ1.n=E.n by rw [show σ1=(cY E).2 by rw [hq]];exact(zW E).2];exact hn):p:=h
theorem qch{p:Prop}(h:p:=by show M.cl (w.heap.size+1)∉_;rw [yT];decide):p:=h
theorem qci{p:Prop}(h:p:=by show M6.s<=_;rw [Y6.out.s];have:=Z3.out;omega):p:=h
theorem qcj{p:Prop}(h:p:=by simp [IntKind.wrap,IntKind.bits,IntKind.signed];omega):p:=h
theorem qck{p:Prop}(h:p:=by cases h):p:=h
theorem qcl{p:Prop}(h:p:=by have:=h.hs;exact cO (show World.ownsRow w 0 68 5 M.hv M.hs.length (M.hs.flatMap cB) from this.1) (by rw [hv];rfl)):p:=h
theorem qcm{p:Prop}(h:p:=by simp at hq;subst hq;exact .inr (.inl ⟨R,by show(0:Int)<=(i:Int);omega,by show(i:Int)<(M3.cs.length:Int);omega⟩)):p:=h
theorem qcn{p:Prop}(h:p:=by simpa using dD.out):p:=h
theorem qco{p:Prop}(h:p:=by decide+kernel):p:=h
theorem qcp{p:Prop}(h:p:=by simpa [Value.ownBlock] using hg):p:=h
theorem qcq{p:Prop}(h:p:=by rcases cY E with⟨⟨i,o,f,l⟩,σ1⟩;exact⟨i,o,f,l,σ1,R⟩):p:=h
theorem qcr{p:Prop}(h:p:=by first|exact(show Nx 65 by decide)|exact(show Nx 66 by decide)|exact kI _ (by decide) (by decide)):p:=h
theorem qcs{p:Prop}(h:p:=by simpa using q0):p:=h
theorem qct{p:Prop}(h:p:=by simpa using q1):p:=h
theorem qcu{p:Prop}(h:p:=by simpa using q2):p:=h
theorem qcv{p:Prop}(h:p:=by have:=HF3.out;simp at this;omega):p:=h
theorem qcw{p:Prop}(h:p:=by obtain⟨Bx,h1,h2,h3⟩:=hs;exact⟨Bx,h1,Qs (β:=Unit) _ Bx _ _ () X af row h2 hg hr,h3⟩):p:=h
theorem qcx{p:Prop}(h:p:=by obtain⟨s,rfl⟩:=hV;exact(hxh s _ lw).trans KT):p:=h
theorem qcy{p:Prop}(h:p:=by rw [HQ.out] at hu;injection hu with hu;subst hu;exact absurd (HW.out.symm.trans hu0) (by decide)):p:=h
theorem qcz{p:Prop}(h:p:=by simp [results,results166,go_sem]):p:=h
theorem qda{p:Prop}(h:p:=by funext E;simp [dU]):p:=h
theorem qdb{p:Prop}(h:p:=by { have:=of_decide_eq_true jh;have e:(σ1.t.F:Int)=V:=(by rw [HT1.out];exact HV.out);omega }):p:=h
theorem qdc{p:Prop}(h:p:=by show(0:Int)<=(i:Int);omega):p:=h
theorem qdd{p:Prop}(h:p:=by rw [<-HP.out];exact aT.cell 2):p:=h
theorem qde{p:Prop}(h:p:=by rw [<-mf.out,<-mZ.out,hvb,jh];rfl):p:=h
theorem qdf{p:Prop}(h:p:=by rw [HM.out];exact hi):p:=h
theorem qdg{p:Prop}(h:p:=by show(f.acts++_).length=_;rw [List.length_append,HN.out];rfl):p:=h
theorem qdh{p:Prop}(h:p:=by cases ha):p:=h
theorem qdi{p:Prop}(h:p:=by have:=hg2.size;have:=hb1.size;simp at*;omega):p:=h
theorem qdj{p:Prop}(h:p:=by show w.heap.size<=w.heap.size+1+1+1+1;omega):p:=h
theorem qdk{p:Prop}(h:p:=by show(M.hs.set n (gk y))[n]? =_;rw [List.getElem?_set_self (by rw [HL.out];exact hn)]):p:=h
theorem qdl{p:Prop}(h:p:=by rw [show σ1=(cY E).2 by rw [hq]];exact(zW E).1):p:=h
theorem qdm{p:Prop}(h:p:=by rw [show σ1=(cY E).2 by rw [hq]];exact(zW E).2):p:=h
theorem qdn{p:Prop}(h:p:=by dsimp only;decide):p:=h
theorem qdo{p:Prop}(h:p:=by simpa [World.setCell] using hz g h):p:=h
theorem qdp{p:Prop}(h:p:=by have:=HR.out.al;omega):p:=h
theorem qdq{p:Prop}(h:p:=by rw [h2];exact Below.refl _ _):p:=h
theorem qdr{p:Prop}(h:p:=by show w.heap.size+1+1≠w.heap.size+1;omega):p:=h
theorem qds{p:Prop}(h:p:=by show eV (if j=i then _ else _)=eV (if j=i then _ else _);rw [if_neg hj,if_neg hj]):p:=h
theorem qdt{p:Prop}(h:p:=by rw [hW];exact ak.new _ _ _):p:=h
theorem qdu{p:Prop}(h:p:=by rw [BitVec.ofInt_natCast,BitVec.toNat_ofNat];exact Nat.mod_eq_of_lt (by omega)):p:=h
theorem qdv{p:Prop}(h:p:=by intro g hg _;rw [List.mem_singleton.1 hg,h.cg];simp):p:=h
theorem qdw{p:Prop}(h:p:=by rw [hs.ds];exact hd):p:=h
theorem qdx{p:Prop}(h:p:=by show n+1<=k+1;omega):p:=h
theorem qdy{p:Prop}(h:p:=by show w.heap.size≠w.heap.size+1;omega):p:=h
theorem qdz{p:Prop}(h:p:=by first|exact(show Nx 68 by decide)|exact kI _ (by decide) (by decide)):p:=h
theorem qea{p:Prop}(h:p:=by rw [<-HW.out];exact aT.cell 4):p:=h
theorem qeb{p:Prop}(h:p:=by rw [List.getElem?_map,List.getElem?_range hlt];rfl):p:=h
theorem qec{p:Prop}(h:p:=by rw [beq_eq_false_iff_ne];omega):p:=h
theorem qed{p:Prop}(h:p:=by rw [size_madeCells];omega):p:=h
theorem qee{p:Prop}(h:p:=by rw [List.length_map,uV.out];exact hi):p:=h
theorem qef{p:Prop}(h:p:=by show w.heap.size<=w.heap.size+1;omega):p:=h
theorem qeg{p:Prop}(h:p:=by rw [HE2.out HN.out];(first|done|rfl)):p:=h
theorem qeh{p:Prop}(h:p:=by rw [List.length_map,HM.out];exact hi):p:=h
theorem qei{p:Prop}(h:p:=by rw [hw0];exact((HC.out.alloc _).alloc _).alloc _):p:=h
theorem qej{p:Prop}(h:p:=by rw [HV.out];(first|done|rfl)):p:=h
theorem qek{p:Prop}(h:p:=by show _<=3*(M.s+1);omega):p:=h
theorem qel{p:Prop}(h:p:=by have:=xt.out;show(hd:Int)<_;omega):p:=h
theorem qem{p:Prop}(h:p:=by have:=HR.out.al;have:=HL.out;omega):p:=h
theorem qen{p:Prop}(h:p:=by rw [<-HK.out];rfl):p:=h
theorem qeo{p:Prop}(h:p:=by show M.s<=_;omega):p:=h
theorem qep{p:Prop}(h:p:=by show b≠w.heap.size+1+1+1+1;omega):p:=h
theorem qeq{p:Prop}(h:p:=by show g≠w.heap.size+1+1+1+1;omega):p:=h
theorem qer{p:Prop}(h:p:=by simp at h):p:=h
theorem qes{p:Prop}(h:p:=by rw [<-mI,iH.out.el];have:=HC.out.ok.fl k hk;have:=iH.out.s;omega):p:=h
theorem qet{p:Prop}(h:p:=by rw [List.drop_eq_nil_of_le h];rfl):p:=h
theorem qeu{p:Prop}(h:p:=by rw [<-(show g=g' by simpa [Value.ownBlock] using hg')];exact I7):p:=h
theorem qev{p:Prop}(h:p:=by simp [World.setCell];omega):p:=h
theorem qew{p:Prop}(h:p:=by have hu:U64=18446744073709551616:=rfl;omega):p:=h
theorem qex{p:Prop}(h:p:=by rw [<-(show g=g' by simpa [Value.ownBlock] using hg')];exact hgk):p:=h
theorem qey{p:Prop}(h:p:=by show(M.cs.set i _).length=_;simp):p:=h
theorem qez{p:Prop}(h:p:=by have:=Int.emod_lt_of_pos a (show(0:Int)<(L:Int) by omega);omega):p:=h
theorem qfa{p:Prop}(h:p:=by rw [ho1.size];simp):p:=h
theorem qfb{p:Prop}(h:p:=by show w.heap.size+1≠w.heap.size+1+1;omega):p:=h
theorem qfc{p:Prop}(h:p:=by rw [<-hnn,iH.out.hs];have:=HC.out.ok.hs;have:=iH.out.s;omega):p:=h
theorem qfd{p:Prop}(h:p:=by rw [List.getElem?_map,hhd];rfl):p:=h
theorem qfe{p:Prop}(h:p:=by show b≠w.heap.size+1+1;omega):p:=h
theorem qff{p:Prop}(h:p:=by show g≠w.heap.size+1+1;omega):p:=h
theorem qfg{p:Prop}(h:p:=by simp [dU,h]):p:=h
theorem qfh{p:Prop}(h:p:=by simpa [Value.ownBlock] using e):p:=h
theorem qfi{p:Prop}(h:p:=by have:=ea.out.1;rw [iV,E1.out,E2.out] at this;exact this):p:=h
theorem qfj{p:Prop}(h:p:=by have:=HI0.out.km.fr.2;rw [show c0 A.fb=10 from this];omega):p:=h
theorem qfk{p:Prop}(h:p:=by show mb≠w.heap.size+1;omega):p:=h
theorem qfl{p:Prop}(h:p:=by show M.s+1<=30000;omega):p:=h
theorem qfm{p:Prop}(h:p:=by rw [IntWalk.i64_in _ (by omega)];omega):p:=h
theorem qfn{p:Prop}(h:p:=by show _<=M.s+1;omega):p:=h
theorem qfo{p:Prop}(h:p:=by have:=Int.emod_nonneg a (show(L:Int)≠0 by omega);omega):p:=h
theorem qfp{p:Prop}(h:p:=by rw [<-HK.out,HN.out,pb.out]):p:=h
theorem qfq{p:Prop}(h:p:=by rw [<-hw0];exact(Below.refl _ w).alloc (Nat.le_refl _) _):p:=h
theorem qfr{p:Prop}(h:p:=by rw [kg];exact hg):p:=h
theorem qfs{p:Prop}(h:p:=by show g≠w.heap.size+1;omega):p:=h
theorem qft{p:Prop}(h:p:=by rw [ov.out];exact hg3):p:=h
theorem qfu{p:Prop}(h:p:=by rw [ov.out];exact hq3):p:=h
theorem qfv{p:Prop}(h:p:=by rw [h.ok.gP];exact hk):p:=h
theorem qfw{p:Prop}(h:p:=by have:=HX.out;omega):p:=h
theorem qfx{p:Prop}(h:p:=by rw [fG.out.k.2];simp;omega):p:=h
theorem qfy{p:Prop}(h:p:=by rw [List.getElem?_eq_getElem hjl] at hxk;injection hxk):p:=h
theorem qfz{p:Prop}(h:p:=by rw [hw0];exact(Below.refl _ w).alloc (Nat.le_refl _) _):p:=h
theorem qga{p:Prop}(h:p:=by rw [iV,HV5.out];exact hg3):p:=h
theorem qgb{p:Prop}(h:p:=by show(0:Int)<=(hd:Int);omega):p:=h
theorem qgc{p:Prop}(h:p:=by show(i:Int)<(M3.cs.length:Int);omega):p:=h
theorem qgd{p:Prop}(h:p:=by obtain⟨cs,hB,hC⟩:=h;exact⟨cs,hB.one hT h1,hC⟩):p:=h
theorem qge{p:Prop}(h:p:=by rw [<-HN.out];exact s1.append (.cons HD.out (.nil _))):p:=h
theorem qgf{p:Prop}(h:p:=by have:=HB1.out.size;simpa using this):p:=h
theorem qgg{p:Prop}(h:p:=by rw [<-Y0.out.s];exact Nat.le_refl _):p:=h
theorem qgh{p:Prop}(h:p:=by rw [<-Y0.out.s];exact Nat.le_succ _):p:=h
theorem qgi{p:Prop}(h:p:=by have:=H3.out.ok.ds;have:=EZ.out;have:=eb.out;omega):p:=h
theorem qgj{p:Prop}(h:p:=by have:U64=18446744073709551616:=rfl;have:=hvb.2;omega):p:=h
theorem qgk{p:Prop}(h:p:=by obtain⟨cs,hB,hC⟩:=h;exact⟨cs,hB.below hb,hC⟩):p:=h
theorem qgl{p:Prop}(h:p:=by show(aL _ k _ k).busy=_;rw [b_];exact p9.bu):p:=h
theorem qgm{p:Prop}(h:p:=by show(aL _ k _ k).next=_;rw [b_];exact p9.nx):p:=h
theorem qgn{p:Prop}(h:p:=by have:=hI.c2;omega):p:=h
theorem qgo{p:Prop}(h:p:=by obtain⟨D,lf,h1,h2,-⟩:=h;exact⟨D,h1.owns,h2⟩):p:=h
theorem qgp{p:Prop}(h:p:=by obtain⟨cs,hB,hC⟩:=h;exact⟨cs,hB.alloc o,hC⟩):p:=h
theorem qgq{p:Prop}(h:p:=by rw [kf];exact hx1):p:=h
theorem qgr{p:Prop}(h:p:=by rw [show fr+(j+1)=x+1 by have:=HX.out;omega];go_num):p:=h
theorem qgs{p:Prop}(h:p:=by show M.cl x.cb∈_;rw [hx.c0];simp):p:=h
theorem qgt{p:Prop}(h:p:=by rw [h];rfl):p:=h
theorem qgu{p:Prop}(h:p:=by show M.s+1+1<=M.s+3;omega):p:=h
theorem qgv{p:Prop}(h:p:=by unfold bY;rw [decide_eq_false (by omega),hk];rfl):p:=h
theorem qgw{p:Prop}(h:p:=by obtain⟨D,h1,h2⟩:=h;exact⟨D,h1.mono hn,h2⟩):p:=h
theorem qgx{p:Prop}(h:p:=by rw [HD.out];exact((HG.out.drewN _).Lu hk8 _)):p:=h
theorem qgy{p:Prop}(h:p:=by rw [List.getElem?_map,List.getElem?_range hi];rfl):p:=h
theorem qgz{p:Prop}(h:p:=by rw [List.getElem?_map,List.getElem?_range hk];rfl):p:=h
theorem qha{p:Prop}(h:p:=by simp [St.sBad]):p:=h
theorem qhb{p:Prop}(h:p:=by simpa using hn):p:=h
theorem qhc{p:Prop}(h:p:=by rw [<-e1,<-e2,Nat.mul_add,<-Nat.mul_assoc];omega):p:=h
theorem qhd{p:Prop}(h:p:=by rw [<-hV,<-ht1];exact hh.cell 16):p:=h
theorem qhe{p:Prop}(h:p:=by rw [HL.out];simp):p:=h
theorem qhf{p:Prop}(h:p:=by rw [Y6.out.s];have:=Z3.out;omega):p:=h
theorem qhg{p:Prop}(h:p:=by rw [kf];exact hb):p:=h
theorem qhh{p:Prop}(h:p:=by rw [kh];exact hh):p:=h
theorem qhi{p:Prop}(h:p:=by simp [results,results301,go_sem,e3];try rfl):p:=h
theorem qhj{p:Prop}(h:p:=by simp [results,results339,go_sem,e3];try rfl):p:=h
theorem qhk{p:Prop}(h:p:=by rw [hz0];simp;omega):p:=h
theorem qhl{p:Prop}(h:p:=by rw [decide_eq_false hn] at hb;simp [must] at hb):p:=h
theorem qhm{p:Prop}(h:p:=by show Nx E.t.pc;unfold Nx;omega):p:=h
theorem qhn{p:Prop}(h:p:=by simpa [World.setCell] using hlt):p:=h
theorem qho{p:Prop}(h:p:=by show M.s<=M.s+1+1;omega):p:=h
theorem qhp{p:Prop}(h:p:=by unfold fA jT;rw [if_pos R,if_pos rfl];rfl):p:=h
theorem qhq{p:Prop}(h:p:=by rw [<-hV,Bool.eq_iff_iff];simp):p:=h
theorem qhr{p:Prop}(h:p:=by rw [h9.hs];exact Nat.zero_le _):p:=h
theorem qhs{p:Prop}(h:p:=by rw [hz2];decide):p:=h
theorem qht{p:Prop}(h:p:=by rw [HV5.out];exact hg3):p:=h
theorem qhu{p:Prop}(h:p:=by rw [HV5.out];exact hq3):p:=h
theorem qhv{p:Prop}(h:p:=by rw [h2];exact below_drewN (Below.refl _ _) q):p:=h
theorem qhw{p:Prop}(h:p:=by rw [Ec] at sd;exact sd.more (by simp)):p:=h
theorem qhx{p:Prop}(h:p:=by simp [results,results13,go_sem,k0.cell]):p:=h
theorem qhy{p:Prop}(h:p:=by have:=HB2.out.size;have:=HB3.out.size;omega):p:=h
theorem qhz{p:Prop}(h:p:=by show A.fb<(wm.alloc o).heap.size;simp;omega):p:=h
theorem qia{p:Prop}(h:p:=by show A.kb<(w5.alloc o).heap.size;simp;omega):p:=h
theorem qib{p:Prop}(h:p:=by unfold Addr.add;by_cases hj:j=0<;>simp [hj]):p:=h
theorem qic{p:Prop}(h:p:=by rw [hw6];exact h1):p:=h
theorem qid{p:Prop}(h:p:=by rw [hw6];exact h2):p:=h
theorem qie{p:Prop}(h:p:=by cases e;exact⟨_,hK',R⟩):p:=h
theorem qif{p:Prop}(h:p:=by rw [E1.out];exact hg3):p:=h
theorem qig{p:Prop}(h:p:=by rw [E1.out];exact hq3):p:=h
theorem qih{p:Prop}(h:p:=by rw [HL.out];exact hnl):p:=h
theorem qii{p:Prop}(h:p:=by rw [uV.out];exact hi):p:=h
theorem qij{p:Prop}(h:p:=by rw [h] at hr;cases hr):p:=h
theorem qik{p:Prop}(h:p:=by show A.fb<(W.alloc _).heap.size;simp;omega):p:=h
theorem qil{p:Prop}(h:p:=by show w3.heap.size≠rb;omega):p:=h
theorem qim{p:Prop}(h:p:=by simpa [World.setCell] using cO ho3 R):p:=h
theorem qin{p:Prop}(h:p:=by simpa using hq):p:=h
theorem qio{p:Prop}(h:p:=by have h9:y.op=0:=(by simpa using q0);omega):p:=h
theorem qip{p:Prop}(h:p:=by obtain⟨D,lf,h1,-⟩:=h;exact h1.left_eq):p:=h
theorem qiq{p:Prop}(h:p:=by simp [results,results170,go_sem,kc8]):p:=h
theorem qir{p:Prop}(h:p:=by simp [results,results340,go_sem,kc8]):p:=h
theorem qis{p:Prop}(h:p:=by simpa [World.setCell] using (ho.2 g hg).1):p:=h
theorem qit{p:Prop}(h:p:=by rw [List.length_take];omega):p:=h
theorem qiu{p:Prop}(h:p:=by obtain⟨cs,hB,-⟩:=h;exact hB.frozen i):p:=h
theorem qiv{p:Prop}(h:p:=by rw [kf];exact ha):p:=h
theorem qiw{p:Prop}(h:p:=by simp [results,results13,go_sem,kc8]):p:=h
theorem qix{p:Prop}(h:p:=by simp [results,results13,go_sem,we]):p:=h
theorem qiy{p:Prop}(h:p:=by simp at hk;omega):p:=h
theorem qiz{p:Prop}(h:p:=by unfold fA jT;rw [if_neg hj,if_neg hj]):p:=h
theorem qja{p:Prop}(h:p:=by have:=h.ok.hs;omega):p:=h
theorem qjb{p:Prop}(h:p:=by have:=hb.size;omega):p:=h
theorem qjc{p:Prop}(h:p:=by rw [aC.size];omega):p:=h
theorem qjd{p:Prop}(h:p:=by show(i:Int)<_;omega):p:=h
theorem qje{p:Prop}(h:p:=by simp [World.putObj]):p:=h
theorem qjf{p:Prop}(h:p:=by rw [ov.out];exact e.symm):p:=h
theorem qjg{p:Prop}(h:p:=by rw [h0];exact d):p:=h
theorem qjh{p:Prop}(h:p:=by rw [h9.hs] at hq;cases hq):p:=h
theorem qji{p:Prop}(h:p:=by rw [h9.hv] at hg;cases hg):p:=h
theorem qjj{p:Prop}(h:p:=by rw [kf,ha];simp):p:=h
theorem qjk{p:Prop}(h:p:=by cases hh):p:=h
theorem qjl{p:Prop}(h:p:=by have:=HO.out;omega):p:=h
theorem qjm{p:Prop}(h:p:=by rw [h.cb];exact hc):p:=h
theorem qjn{p:Prop}(h:p:=by rw [gQ];exact hx):p:=h
theorem qjo{p:Prop}(h:p:=by simp [Region.wanted,hgd]):p:=h
theorem qjp{p:Prop}(h:p:=by rw [e];rfl):p:=h
theorem qjq{p:Prop}(h:p:=by rw [hz];decide):p:=h
theorem qjr{p:Prop}(h:p:=by simp [hC.size]):p:=h
theorem qjs{p:Prop}(h:p:=by have:=hr k e.symm;omega):p:=h
theorem qjt{p:Prop}(h:p:=by rw [E2.out];omega):p:=h
theorem qju{p:Prop}(h:p:=by rw [hm.out];omega):p:=h
theorem qjv{p:Prop}(h:p:=by rw [<-mf.out,hvb];rfl):p:=h
theorem qjw{p:Prop}(h:p:=by rw [hp];rfl):p:=h
theorem qjx{p:Prop}(h:p:=by rw [hz0];simp):p:=h
theorem qjy{p:Prop}(h:p:=by simpa using h):p:=h
theorem qjz{p:Prop}(h:p:=by simp [dT];omega):p:=h
theorem qka{p:Prop}(h:p:=by simp at hq;omega):p:=h
theorem qkb{p:Prop}(h:p:=by rw [e3];exact h.ok.gi):p:=h
theorem qkc{p:Prop}(h:p:=by have:=HJ.out.s;omega):p:=h
theorem qkd{p:Prop}(h:p:=by have:=I2.out.s;omega):p:=h
theorem qke{p:Prop}(h:p:=by rw [HL.out];exact hn):p:=h
theorem qkf{p:Prop}(h:p:=by rw [e2];exact h.ok.ag):p:=h
theorem qkg{p:Prop}(h:p:=by rw [hx.c2];simp):p:=h
theorem qkh{p:Prop}(h:p:=by rw [hx.c3];simp):p:=h
theorem qki{p:Prop}(h:p:=by rw [hx.c4];simp):p:=h
theorem qkj{p:Prop}(h:p:=by rw [hx.c5];simp):p:=h
theorem qkk{p:Prop}(h:p:=by rw [hz1'];simp;omega):p:=h
theorem qkl{p:Prop}(h:p:=by simp [MapKept.IsKey]):p:=h
theorem qkm{p:Prop}(h:p:=by simp at hn ⊢;omega):p:=h
theorem qkn{p:Prop}(h:p:=by unfold cY;rw [hz]):p:=h
theorem qko{p:Prop}(h:p:=by rw [h0];decide):p:=h
theorem qkp{p:Prop}(h:p:=by simpa using h2):p:=h
theorem qkq{p:Prop}(h:p:=by simpa using h3):p:=h
theorem qkr{p:Prop}(h:p:=by rw [hq]):p:=h
end Go.Proofs.YtedefgjfgdcfdaaGreatDoor
