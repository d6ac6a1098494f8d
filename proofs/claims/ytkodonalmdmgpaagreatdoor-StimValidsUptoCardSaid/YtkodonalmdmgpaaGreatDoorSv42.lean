import Derived.Test.YtkodonalmdmgpaaGreatDoorSv39
import Derived.Test.YtkodonalmdmgpaaGreatDoorSv40
import Derived.Test.YtkodonalmdmgpaaGreatDoorSv41
import Derived.Test.YtkodonalmdmgpaaGreatDoorSv38
set_option maxRecDepth 1000000
set_option linter.all false
set_option linter.defProp false
section
namespace Go.Proofs.YtkodonalmdmgpaaGreatDoor
open Go Go.Abs
abbrev rowsI (l:List Int):List (List AV):=l.map fun n=>[.int .i64 n]
/-- A row of the state's own, that holds these numbers. -/
def RowM (v:AV) (σ:St) (l:List Int):Prop:=(l=[]∧v=.sl 0 [] .nil)∨∃ b,v=.ms b 0 l.length 1∧l≠[]∧σ.H[b]?=some (.cells (l.map fun n=>.int .i64 n))
def SeqJ (σ:St) (n0:Nat) (l:List Int) (i:Nat) (τ:St):Prop :=
 τ.T=σ.T∧(∀ k<n0,τ.H[k]?=σ.H[k]?)∧∃ v,τ.H[n0]?=some (.cells [v])∧((i=0∧v=.sl 0 [] .nil)∨∃ b,v=.ms b 0 i 1∧0<i∧n0<b∧τ.H[b]?=some (.cells ((l.take i).map fun n=>.int .i64 n)))
def SeqQ (σ:St) (l:List Int) (v:AV) (τ:St):Prop:=τ.T=σ.T∧(∀ k<σ.H.length,τ.H[k]?=σ.H[k]?)∧RowM v τ l
theorem app_first (H:List Blk) (T:List (Option Nat)) (n:Int):appendX (Dof Tryz.prog) ⟨H,T⟩ 48 48 (.sl 0 [] .nil) (.sl 1 [[.int .i64 n]] .tight)=some (.ms H.length 0 1 1,⟨H++[.cells [.int .i64 n]],T⟩):=by
 simp [appendX,appendM,srcA,plainTD,St.push]
theorem app_next (H:List Blk) (T:List (Option Nat)) (n:Int) (b i:Nat) (c:List AV) (hb:H[b]?=some (.cells c)) (hc:c.length=i) (hi:i<2 ^ 28):appendX (Dof Tryz.prog) ⟨H,T⟩ 48 48 (.ms b 0 i 1) (.sl 1 [[.int .i64 n]] .tight)=some (.ms H.length 0 (i+1) 1,⟨H.set b .dead++[.cells (c++[.int .i64 n])],T⟩):=by
 have h1:i+1≤549755813888:=by omega
 have h2:c.take i=c:=List.take_of_length_le (by omega)
 simp [appendX,appendM,srcA,plainTD,hb,h1,hc,h2]
theorem appendSeq294 (σ:St) (l:List Int) (tok:Tok) (hlen:l.length<2 ^ 28) :
 ACall Tryz.prog GG 296 [.sl 0 [] .nil,.fn 244 [] [.rptr [.sl 1 (rowsI l) tok]]] σ (SeqQ σ l):=by
 refine ACall.kO ⟨true,[],[],[]⟩ mixed Tryz.func296 rfl (by kernel_rfl) ?_
 simp [-getElem?_pos]
 refine kC_rangeF (quiet_noX _) (fun _=>True) (l.map fun n=>.int .i64 n) (SeqJ σ σ.H.length l) (by simp [ev]) (fw214 GG l tok (by omega)) (fun _ _ _=>trivial) ?_ ?_ ?_
 · refine⟨rfl,fun k hk=>?_,.sl 0 [] .nil,?_,.inl ⟨rfl,rfl⟩⟩
   · simp [List.getElem?_append_left hk]
   · simp
 · rintro i v τ hi ⟨h1,h2,w,h3,h4⟩
   obtain⟨n,hn,rfl⟩:∃ n,l[i]?=some n∧v=.int .i64 n:=by
    simp only [List.getElem?_map,Option.map_eq_some_iff] at hi
    obtain⟨n,a,b⟩:=hi
    exact⟨n,a,b.symm⟩
   have hil:i<l.length:=(List.getElem?_eq_some_iff.1 hn).1
   obtain⟨H,T⟩:=τ
   simp only at h1 h2 h3 h4
   simp [-getElem?_pos,h3]
   have hnl:σ.H.length<H.length:=(List.getElem?_eq_some_iff.1 h3).1
   have htk:(l.take (i+1)).map (fun n=>AV.int .i64 n)=(l.take i).map (fun n=>AV.int .i64 n)++[.int .i64 n]:=by
    rw [List.take_add_one,hn];simp
   rcases h4 with ⟨rfl,rfl⟩|⟨b,rfl,hi0,hb,hcb⟩
   · rw [app_first]
     simp [-getElem?_pos,List.getElem?_append_left hnl,h3]
     refine⟨h1,fun k hk=>?_,.ms H.length 0 1 1,?_,.inr ⟨H.length,rfl,by omega,hnl,?_⟩⟩
     · simp only
       rw [List.getElem?_set_ne (by omega),List.getElem?_append_left (by omega)];exact h2 k hk
     · simp only
       rw [List.getElem?_set_self (by simp;omega)]
     · simp only
       rw [List.getElem?_set_ne (by omega),List.getElem?_append_right (Nat.le_refl _),htk];simp
   · have hcl:((l.take i).map fun n=>AV.int .i64 n).length=i:=by simp;omega
     rw [app_next H T n b i _ hcb hcl (by omega)]
     have hbl:b<H.length:=(List.getElem?_eq_some_iff.1 hcb).1
     have h3':(H.set b .dead++[.cells ((l.take i).map (fun n=>AV.int .i64 n)++[.int .i64 n])])[σ.H.length]?=some (.cells [.ms b 0 i 1]):=by
      rw [List.getElem?_append_left (by simpa using hnl),List.getElem?_set_ne (by omega),h3]
     generalize hH':H.set b .dead++[.cells ((l.take i).map (fun n=>AV.int .i64 n)++[.int .i64 n])]=H' at h3'
     simp [-getElem?_pos,h3']
     have hl':H'.length=H.length+1:=by rw [← hH'];simp
     refine⟨h1,fun k hk=>?_,.ms H.length 0 (i+1) 1,?_,.inr ⟨H.length,rfl,by omega,hnl,?_⟩⟩
     · simp only
       rw [List.getElem?_set_ne (by omega),← hH',List.getElem?_append_left (by simp;omega),List.getElem?_set_ne (by omega)];exact h2 k hk
     · simp only
       rw [List.getElem?_set_self (by omega)]
     · simp only
       rw [List.getElem?_set_ne (by omega),htk,← hH',List.getElem?_append_right (by simp)];simp
 · rintro τ ⟨h1,h2,w,h3,h4⟩
   simp [-getElem?_pos,h3]
   refine⟨h1,h2,?_⟩
   simp only [List.length_map,List.take_length] at h4
   rcases h4 with ⟨h0,rfl⟩|⟨b,rfl,h0,hb,hc⟩
   · exact .inl ⟨List.eq_nil_of_length_eq_zero h0,rfl⟩
   · exact .inr ⟨b,rfl,fun e=>by rw [e] at h0;simp at h0,hc⟩
theorem collect212 (σ:St) (l:List Int) (tok:Tok) (hlen:l.length<2 ^ 28) :
 ACall Tryz.prog GG 242 [.fn 244 [] [.rptr [.sl 1 (rowsI l) tok]]] σ (SeqQ σ l):=by
 refine ACall.k mixed Tryz.func242 rfl (by kernel_rfl) ?_
 simp [-getElem?_pos]
 refine kCall.acall (appendSeq294 σ l tok hlen) ?_
 rintro v τ h
 simp [-getElem?_pos]
 exact h
theorem wr1:IntKind.i64.wrap 1=1:=wr (by omega) (by omega)
theorem ins371 (σ:St) (b:Nat) (x:AV) (hb:σ.H[b]?=some (.cells [x])):ACall Tryz.prog GG 342 [.ms b 0 1 1,.int .i64 0,.int .i64 1] σ (fun _ τ=>τ=σ):=by
 refine ACall.k mixed Tryz.func342 rfl (by kernel_rfl) ?_
 simp [-getElem?_pos]
 refine kLoop.list ([]:List Nat) (fun d env τ=>env 6=.int .i64 1∧env 2=.int .i64 1∧τ=σ) ?_ ?_ ?_
 · simp [wr1]
 · rintro d v r env τ h;simp at h
 · rintro env τ ⟨h6,h2,rfl⟩
   simp [-getElem?_pos,h6,h2,wr1]
theorem pdq295 (σ:St) (b:Nat) (x:AV) (m:AV) (hb:σ.H[b]?=some (.cells [x])):ACall Tryz.prog GG 297 [.ms b 0 1 1,.int .i64 0,.int .i64 1,m] σ (fun _ τ=>τ=σ):=by
 refine ACall.k mixed Tryz.func297 rfl (by kernel_rfl) ?_
 simp [-getElem?_pos]
 refine kLoop.list ([]:List Nat) (fun d env τ=>env 0=.ms b 0 1 1∧env 1=.int .i64 0∧env 2=.int .i64 1∧τ=σ) ?_ ?_ ?_
 · simp [wr1]
 · rintro d v r env τ h;simp at h
 · rintro env τ ⟨h0,h1,h2,rfl⟩
   simp [-getElem?_pos,h0,h1,h2,wr1]
   refine kCall.acall (ins371 τ b x hb) ?_
   rintro v τ' rfl
   simp [-getElem?_pos]
def looksN (_:Nat):Look:=⟨o0,false⟩
theorem looksN_bw (G:Nat→AV):∀ g x k,(looksN g).o.bw.lookup x=some k→BwOk Tryz.prog G x k:=fun g x k h=>by cases h
def SN:Nat:=509258994083621634645323567918941633593907145963269075618004512378208644723631059273515008
theorem fokN:(List.range 512).all (fun g=>!Nat.testBit SN g||okF looksN g)=true:=by kernel_rfl
noncomputable def FN:Nat→Option Bod:=FF looksN SN
theorem FN_ok:BodOk Tryz.prog GG FN:=FF_ok (looksN_bw GG) fokN (by decide +kernel)
theorem len296:Pure Tryz.prog GG 298 [.int .u64 1] (.int .i64 1):=Pure.closedA FN_ok (K:=K0) X0_ok 100 10 (by kernel_rfl)
theorem sort213 (σ:St) (b:Nat) (x:AV) (hb:σ.H[b]?=some (.cells [x])):ACall Tryz.prog GG 243 [.ms b 0 1 1] σ (fun _ τ=>τ=σ):=by
 refine ACall.k mixed Tryz.func243 rfl (by kernel_rfl) ?_
 have ec:IntKind.u64.wrap 1=1:=by decide
 simp [-getElem?_pos,convA,ec]
 refine kCall.call (G:=quiet GG) len296 (by simp [noRefs,noRef]) ?_
 simp [-getElem?_pos]
 refine kCall.acall (pdq295 σ b x _ hb) ?_
 rintro v τ rfl
 simp [-getElem?_pos]
theorem sorted139 (x:Int) (tok:Tok):Pure Tryz.prog GG 186 [.fn 244 [] [.rptr [.sl 1 (rowsI [x]) tok]]] (.sl 1 (rowsI [x]) .none):=by
 refine Pure.kO o0 true mixed Tryz.func186 rfl (by kernel_rfl) ?_
 simp [-getElem?_pos]
 refine kCall.acall (collect212 _ [x] tok (by simp)) ?_
 rintro v τ ⟨h1,h2,h3⟩
 rcases h3 with ⟨h3,_⟩|⟨b,rfl,_,hb⟩
 · simp at h3
 simp [-getElem?_pos]
 refine kCall.acall (sort213 τ b (.int .i64 x) hb) ?_
 rintro v τ' rfl
 obtain⟨H,T⟩:=τ'
 simp at hb
 simp [-getElem?_pos]
 have e:frz H 8 (.ms b 0 1 1)=.sl 1 [[.int .i64 x]] .none:=by
  rw [frz]
  simp only [noRef,hb]
  simp [chunk,frz_int]
 rw [e]
 exact⟨by simp [noRef,noRefss,noRefs],Leq.refl _⟩
def KU (g:FuncId):Bool:=Nat.beq g 65||Nat.beq g 67||Nat.beq g 186
def XU (g:FuncId) (args:List AV):Option AV :=
 pickB (Nat.beq g 65&&leqQ args [.agg [.sl 4 [[.str [97],.int .i64 3,.int .i64 1,.int .i64 0]] .none,.sl 0 [] .nil,.sl 0 [] .nil,.sl 0 [] .nil,.sl 1 [[.sl 1 [[.int .i64 0]] .none]] .none]]) (some (.int .i64 0)) <|
 pickB (Nat.beq g 67&&leqQ args [.agg [.sl 4 [[.str [97],.int .i64 3,.int .i64 1,.int .i64 0]] .none,.sl 0 [] .nil,.sl 0 [] .nil,.sl 0 [] .nil,.sl 1 [[.sl 1 [[.int .i64 0]] .none]] .none]]) (some (.tup [.sl 4 [] .none,.int .i64 0])) <|
 pickB (Nat.beq g 186&&eqVL args [.fn 244 [] [.rptr [.sl 1 [[.int .i64 0]] .none]]]) (some (.sl 1 [[.int .i64 0]] .none)) <|
 none
theorem XU_ok:ConX Tryz.prog GG XU:=by
 intro g args r h
 unfold XU at h
 rcases conX_step validF h with h|h
 · exact h
 rcases conX_step rulesF h with h|h
 · exact h
 rcases conX_eq (sorted139 0 .none) h with h|h
 · exact h
 cases h
theorem solve00F:Pure Tryz.prog GG 72 [.agg [.sl 4 [[.str [97],.int .i64 3,.int .i64 1,.int .i64 0]] .none,.sl 0 [] .nil,.sl 0 [] .nil,.sl 0 [] .nil,.sl 1 [[.sl 1 [[.int .i64 0]] .none]] .none],.agg [.int .u64 1642094416566546154,.int .u64 0]] (.tup [.sl 1 [[.int .i64 5]] .none,.agg [.int .u64 1642094416566546154,.int .u64 1],.int .i64 0]):=Pure.closedA FA_ok (K:=KU) XU_ok 2000 60 (by kernel_rfl)
theorem solve01F:Pure Tryz.prog GG 72 [.agg [.sl 4 [[.str [97],.int .i64 3,.int .i64 1,.int .i64 0]] .none,.sl 0 [] .nil,.sl 0 [] .nil,.sl 0 [] .nil,.sl 1 [[.sl 1 [[.int .i64 0]] .none]] .none],.agg [.int .u64 16722898625489692664,.int .u64 0]] (.tup [.sl 1 [[.int .i64 4]] .none,.agg [.int .u64 16722898625489692664,.int .u64 1],.int .i64 0]):=Pure.closedA FA_ok (K:=KU) XU_ok 2000 60 (by kernel_rfl)
theorem solve10F:Pure Tryz.prog GG 72 [.agg [.sl 4 [[.str [97],.int .i64 3,.int .i64 1,.int .i64 0]] .none,.sl 0 [] .nil,.sl 0 [] .nil,.sl 0 [] .nil,.sl 1 [[.sl 1 [[.int .i64 0]] .none]] .none],.agg [.int .u64 5636776020644590480,.int .u64 0]] (.tup [.sl 1 [[.int .i64 4]] .none,.agg [.int .u64 5636776020644590480,.int .u64 1],.int .i64 0]):=Pure.closedA FA_ok (K:=KU) XU_ok 2000 60 (by kernel_rfl)
theorem solve11F:Pure Tryz.prog GG 72 [.agg [.sl 4 [[.str [97],.int .i64 3,.int .i64 1,.int .i64 0]] .none,.sl 0 [] .nil,.sl 0 [] .nil,.sl 0 [] .nil,.sl 1 [[.sl 1 [[.int .i64 0]] .none]] .none],.agg [.int .u64 14689928107199444447,.int .u64 0]] (.tup [.sl 1 [[.int .i64 5]] .none,.agg [.int .u64 14689928107199444447,.int .u64 1],.int .i64 0]):=Pure.closedA FA_ok (K:=KU) XU_ok 2000 60 (by kernel_rfl)
def KC (g:FuncId):Bool:=Nat.beq g 65||Nat.beq g 67||Nat.beq g 72
def XC (g:FuncId) (args:List AV):Option AV :=
 pickB (Nat.beq g 65&&leqQ args [.agg [.sl 4 [[.str [97],.int .i64 3,.int .i64 1,.int .i64 0]] .none,.sl 0 [] .nil,.sl 0 [] .nil,.sl 0 [] .nil,.sl 1 [[.sl 1 [[.int .i64 0]] .none]] .none]]) (some (.int .i64 0)) <|
 pickB (Nat.beq g 67&&leqQ args [.agg [.sl 4 [[.str [97],.int .i64 3,.int .i64 1,.int .i64 0]] .none,.sl 0 [] .nil,.sl 0 [] .nil,.sl 0 [] .nil,.sl 1 [[.sl 1 [[.int .i64 0]] .none]] .none]]) (some (.tup [.sl 4 [] .none,.int .i64 0])) <|
 pickB (Nat.beq g 72&&leqQ args [.agg [.sl 4 [[.str [97],.int .i64 3,.int .i64 1,.int .i64 0]] .none,.sl 0 [] .nil,.sl 0 [] .nil,.sl 0 [] .nil,.sl 1 [[.sl 1 [[.int .i64 0]] .none]] .none],.agg [.int .u64 1642094416566546154,.int .u64 0]]) (some (.tup [.sl 1 [[.int .i64 5]] .none,.agg [.int .u64 1642094416566546154,.int .u64 1],.int .i64 0])) <|
 pickB (Nat.beq g 72&&leqQ args [.agg [.sl 4 [[.str [97],.int .i64 3,.int .i64 1,.int .i64 0]] .none,.sl 0 [] .nil,.sl 0 [] .nil,.sl 0 [] .nil,.sl 1 [[.sl 1 [[.int .i64 0]] .none]] .none],.agg [.int .u64 16722898625489692664,.int .u64 0]]) (some (.tup [.sl 1 [[.int .i64 4]] .none,.agg [.int .u64 16722898625489692664,.int .u64 1],.int .i64 0])) <|
 pickB (Nat.beq g 72&&leqQ args [.agg [.sl 4 [[.str [97],.int .i64 3,.int .i64 1,.int .i64 0]] .none,.sl 0 [] .nil,.sl 0 [] .nil,.sl 0 [] .nil,.sl 1 [[.sl 1 [[.int .i64 0]] .none]] .none],.agg [.int .u64 5636776020644590480,.int .u64 0]]) (some (.tup [.sl 1 [[.int .i64 4]] .none,.agg [.int .u64 5636776020644590480,.int .u64 1],.int .i64 0])) <|
 pickB (Nat.beq g 72&&leqQ args [.agg [.sl 4 [[.str [97],.int .i64 3,.int .i64 1,.int .i64 0]] .none,.sl 0 [] .nil,.sl 0 [] .nil,.sl 0 [] .nil,.sl 1 [[.sl 1 [[.int .i64 0]] .none]] .none],.agg [.int .u64 14689928107199444447,.int .u64 0]]) (some (.tup [.sl 1 [[.int .i64 5]] .none,.agg [.int .u64 14689928107199444447,.int .u64 1],.int .i64 0])) <|
 none
theorem XC_ok:ConX Tryz.prog GG XC:=by
 intro g args r h
 unfold XC at h
 rcases conX_step validF h with h|h
 · exact h
 rcases conX_step rulesF h with h|h
 · exact h
 rcases conX_step solve00F h with h|h
 · exact h
 rcases conX_step solve01F h with h|h
 · exact h
 rcases conX_step solve10F h with h|h
 · exact h
 rcases conX_step solve11F h with h|h
 · exact h
 cases h
theorem cyc00F:Pure Tryz.prog GG 41 [.agg [.sl 4 [[.str [97],.int .i64 3,.int .i64 1,.int .i64 0]] .none,.sl 0 [] .nil,.sl 0 [] .nil,.sl 0 [] .nil,.sl 1 [[.sl 1 [[.int .i64 0]] .none]] .none],.agg [.sl 1 [[.sl 0 [] .nil]] .none],.agg [.int .u64 1642094416566546154,.int .u64 0]] (.tup [.sl 1 [[.int .i64 5]] .none,.agg [.sl 1 [[.sl 1 [] .none]] .none],.agg [.int .u64 1642094416566546154,.int .u64 1],.int .i64 0]):=Pure.closedA FB_ok (K:=KC) XC_ok 2000 60 (by kernel_rfl)
theorem cyc01F:Pure Tryz.prog GG 41 [.agg [.sl 4 [[.str [97],.int .i64 3,.int .i64 1,.int .i64 0]] .none,.sl 0 [] .nil,.sl 0 [] .nil,.sl 0 [] .nil,.sl 1 [[.sl 1 [[.int .i64 0]] .none]] .none],.agg [.sl 1 [[.sl 0 [] .nil]] .none],.agg [.int .u64 16722898625489692664,.int .u64 0]] (.tup [.sl 1 [[.int .i64 4]] .none,.agg [.sl 1 [[.sl 1 [] .none]] .none],.agg [.int .u64 16722898625489692664,.int .u64 1],.int .i64 0]):=Pure.closedA FB_ok (K:=KC) XC_ok 2000 60 (by kernel_rfl)
theorem cyc10F:Pure Tryz.prog GG 41 [.agg [.sl 4 [[.str [97],.int .i64 3,.int .i64 1,.int .i64 0]] .none,.sl 0 [] .nil,.sl 0 [] .nil,.sl 0 [] .nil,.sl 1 [[.sl 1 [[.int .i64 0]] .none]] .none],.agg [.sl 1 [[.sl 0 [] .nil]] .none],.agg [.int .u64 5636776020644590480,.int .u64 0]] (.tup [.sl 1 [[.int .i64 4]] .none,.agg [.sl 1 [[.sl 1 [] .none]] .none],.agg [.int .u64 5636776020644590480,.int .u64 1],.int .i64 0]):=Pure.closedA FB_ok (K:=KC) XC_ok 2000 60 (by kernel_rfl)
theorem cycb10F:Pure Tryz.prog GG 41 [.agg [.sl 4 [[.str [97],.int .i64 3,.int .i64 1,.int .i64 0]] .none,.sl 0 [] .nil,.sl 0 [] .nil,.sl 0 [] .nil,.sl 1 [[.sl 1 [[.int .i64 0]] .none]] .none],.agg [.sl 1 [[.sl 1 [] .none]] .none],.agg [.int .u64 5636776020644590480,.int .u64 0]] (.tup [.sl 1 [[.int .i64 4]] .none,.agg [.sl 1 [[.sl 1 [] .none]] .none],.agg [.int .u64 5636776020644590480,.int .u64 1],.int .i64 0]):=Pure.closedA FB_ok (K:=KC) XC_ok 2000 60 (by kernel_rfl)
theorem cyc11F:Pure Tryz.prog GG 41 [.agg [.sl 4 [[.str [97],.int .i64 3,.int .i64 1,.int .i64 0]] .none,.sl 0 [] .nil,.sl 0 [] .nil,.sl 0 [] .nil,.sl 1 [[.sl 1 [[.int .i64 0]] .none]] .none],.agg [.sl 1 [[.sl 0 [] .nil]] .none],.agg [.int .u64 14689928107199444447,.int .u64 0]] (.tup [.sl 1 [[.int .i64 5]] .none,.agg [.sl 1 [[.sl 1 [] .none]] .none],.agg [.int .u64 14689928107199444447,.int .u64 1],.int .i64 0]):=Pure.closedA FB_ok (K:=KC) XC_ok 2000 60 (by kernel_rfl)
theorem cycb11F:Pure Tryz.prog GG 41 [.agg [.sl 4 [[.str [97],.int .i64 3,.int .i64 1,.int .i64 0]] .none,.sl 0 [] .nil,.sl 0 [] .nil,.sl 0 [] .nil,.sl 1 [[.sl 1 [[.int .i64 0]] .none]] .none],.agg [.sl 1 [[.sl 1 [] .none]] .none],.agg [.int .u64 14689928107199444447,.int .u64 0]] (.tup [.sl 1 [[.int .i64 5]] .none,.agg [.sl 1 [[.sl 1 [] .none]] .none],.agg [.int .u64 14689928107199444447,.int .u64 1],.int .i64 0]):=Pure.closedA FB_ok (K:=KC) XC_ok 2000 60 (by kernel_rfl)
end Go.Proofs.YtkodonalmdmgpaaGreatDoor
end
