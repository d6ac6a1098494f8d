import Derived.Test.YtkodonalmdmgpaaGreatDoorSv12
import Derived.Test.YtkodonalmdmgpaaGreatDoorSv37
set_option maxRecDepth 1000000
set_option linter.all false
set_option linter.defProp false
section
namespace Go.Abs
open Go Go.RowKit
section
variable {P:Program} {G:Nat→AV} {N:Nat} {env:Env} {σ:St} {w0:World} {ro0:Nat→Nat→Option Value} {K:Kn} {a:Act} {w:World}
theorem region_keep {ro:Option Nat} {n id t:Nat} {ops:Array Oper} {Q:Env→St→Prop} {Q':Exit→Act→World→Prop} (hw:WRel G w0 ro0 K σ w) (he:ERel K N env a) (hs:slotsOk N ops=true)
 (hk:∀ o∈ops.toList,o.dst≠some t) (h:vcR P G false ops false false ops.toList env σ Q)
 (hn:∀ K' env' σ' a' w',K.le K'→WRel G w0 ro0 K' σ' w'→ERel K' N env' a'→a'.defers=a.defers→a'.tmps.getD t undef=a.tmps.getD t undef→Q env' σ'→Q' .normal a' w') :
 (Code.region id ops false).wpIn (FR ro) n P Q' a w:=by
 refine wpIn_region_list ?_
 have:=vcR_soundIn (quiet_noX _) hs (ro:=ro) (n:=n) (more:=[]) ops.toList env σ K a w (by simp) h hw he (Q':=Q') fun K' env' σ' a' w' h1 h2 h3 h4 h5 h6=>hn K' env' σ' a' w' h1 h2 h3 h4 (h5 t hk) h6
 simpa using this
theorem row_len (hw:WRel G w0 ro0 K σ w) {b i sz:Nat} {rows:List (List AV)} {tok:Tok} {r:List AV} (hb:σ.H[b]?=some (.cells [.sl sz rows tok])) (hr:rows[i]?=some r):r.length=sz∧r.all AV.atom=true:=by
 obtain⟨B,_,_,_,⟨cs,el,_,_,_,h⟩,_⟩:=hw.blk b _ hb
 obtain⟨v,_,hv⟩:=h 0 (.sl sz rows tok) rfl
 simp only [VRel] at hv
 rcases hv with ⟨_,rfl,_⟩|⟨B',off,cap,_,_,hrows,_⟩
 · simp at hr
 · obtain⟨h1,h2,_⟩:=RowsAt.get B' sz rows off hrows i r hr
   exact⟨h1,h2⟩
end
end Go.Abs
namespace Go.Proofs.YtkodonalmdmgpaaGreatDoor
open Go Go.Abs
def bwR0 : Array Oper := #[{ dst := some 4, op := Op.load 45 (Operand.tmp 1), type := 45, pos := "iter.go:28", after := #[], guard := none },
 { dst := some 5, op := Op.call { callee := Callee.builtin Builtin.len, args := #[Operand.tmp 4], argTypes := #[45] }, type := 3, pos := "iter.go:28", after := #[{ on := 0, ground := Ground.data }], guard := none },
 { dst := some 6, op := Op.binOp BinOp.sub 3 (Operand.tmp 5) (Operand.const (Value.int IntKind.i64 1)) 3, type := 3, pos := "iter.go:28", after := #[{ on := 1, ground := Ground.data }], guard := none },
 { dst := some 3, op := Op.assign (Operand.tmp 6), type := 3, pos := "iter.go:28", after := #[{ on := 2, ground := Ground.data }, { on := 0, ground := Ground.phase }, { on := 1, ground := Ground.phase }, { on := 2, ground := Ground.phase }], guard := none }]
def bwR1 : Array Oper := #[{ dst := some 7, op := Op.move (Operand.tmp 3), type := 3, pos := "iter.go:28", after := #[], guard := none },
 { dst := some 8, op := Op.binOp BinOp.geq 3 (Operand.tmp 7) (Operand.const (Value.int IntKind.i64 0)) 3, type := 4, pos := "iter.go:28", after := #[{ on := 0, ground := Ground.data }], guard := none }]
def bwO0 : Oper := { dst := some 11, op := Op.move (Operand.tmp 0), type := 338, pos := "iter.go:29", after := #[], guard := none }
def bwM : List Oper := [{ dst := some 12, op := Op.move (Operand.tmp 3), type := 3, pos := "iter.go:29", after := #[], guard := none },
 { dst := some 13, op := Op.load 45 (Operand.tmp 1), type := 45, pos := "iter.go:29", after := #[], guard := none },
 { dst := some 14, op := Op.move (Operand.tmp 3), type := 3, pos := "iter.go:29", after := #[], guard := none },
 { dst := some 15, op := Op.indexAddr 45 (Operand.tmp 13) (Operand.tmp 14), type := 0, pos := "iter.go:29", after := #[{ on := 2, ground := Ground.data }, { on := 3, ground := Ground.data }], guard := none },
 { dst := some 16, op := Op.load 66 (Operand.tmp 15), type := 66, pos := "iter.go:29", after := #[{ on := 4, ground := Ground.data }], guard := none }]
def bwO6 : Oper := { dst := some 17, op := Op.call { callee := Callee.value (Operand.tmp 11), args := #[Operand.tmp 12, Operand.tmp 16], argTypes := #[3, 66] }, type := 4, pos := "iter.go:29", after := #[{ on := 0, ground := Ground.data }, { on := 1, ground := Ground.data }, { on := 5, ground := Ground.data }], guard := none }
def bwO7 : Oper := { dst := some 18, op := Op.unOp UnOp.not 4 (Operand.tmp 17), type := 4, pos := "iter.go:29", after := #[{ on := 6, ground := Ground.data }], guard := none }
def bwR3:Array Oper:=(bwO0::(bwM++[bwO6,bwO7])).toArray
def bwR2 : Array Oper := #[{ dst := some 9, op := Op.move (Operand.tmp 3), type := 3, pos := "iter.go:28", after := #[], guard := none },
 { dst := some 10, op := Op.binOp BinOp.sub 3 (Operand.tmp 9) (Operand.const (Value.int IntKind.i64 1)) 3, type := 3, pos := "iter.go:28", after := #[{ on := 0, ground := Ground.data }], guard := none },
 { dst := some 3, op := Op.assign (Operand.tmp 10), type := 3, pos := "iter.go:28", after := #[{ on := 1, ground := Ground.data }, { on := 0, ground := Ground.phase }, { on := 1, ground := Ground.phase }], guard := none }]
def bwCode:Code:=.seq (.region 0 bwR0 false) (.block 0 (.loop (.seq (.seq (.region 1 bwR1 false) (.cond (.tmp 8) .skip (.exit 0))) (.seq (.block 1 (.seq (.region 3 bwR3 false) (.cond (.tmp 18) .ret .skip))) (.region 2 bwR2 false)))))
theorem bwBody:Tryz.f255.body=some bwCode:=rfl
section
variable {G:Nat→AV} {w0:World} {ro0:Nat→Nat→Option Value} {b L B:Nat} {K:Kn} {σ:St} {env:Env} {a:Act} {w:World} {n:Nat} {Q':Exit→Act→World→Prop}
theorem bw0 {sz:Nat} {rows:List (List AV)} {tok:Tok} (h1:env 1=.ptr b 0) (hb:σ.H[b]?=some (.cells [.sl sz rows tok])) (hlen:rows.length<2 ^ 62) :
 vcR Tryz.prog G false bwR0 false false bwR0.toList env σ (fun env' σ'=>σ'=σ∧env' 1=.ptr b 0∧env' 3=.int .i64 ((rows.length:Int)-1)):=by
 simp [bwR0,h1,hb]
 exact wr (by omega) (by omega)
theorem bw1 {i:Int} (h1:env 1=.ptr b 0) (h3:env 3=.int .i64 i) :
 vcR Tryz.prog G false bwR1 false false bwR1.toList env σ (fun env' σ'=>σ'=σ∧env' 1=.ptr b 0∧env' 3=.int .i64 i∧env' 8=.bool (decide (0≤i))):=by
 simp [bwR1,h1,h3]
theorem bw2 {i:Nat} (h1:env 1=.ptr b 0) (h3:env 3=.int .i64 i) (hi:i<2 ^ 62) :
 vcR Tryz.prog G false bwR2 false false bwR2.toList env σ (fun env' σ'=>σ'=σ∧env' 1=.ptr b 0∧env' 3=.int .i64 ((i:Int)-1)):=by
 simp [bwR2,h1,h3]
 exact wr (by omega) (by omega)
theorem bwm {i:Nat} {rows:List (List AV)} {tok:Tok} {r:List AV} (h1:env 1=.ptr b 0) (h3:env 3=.int .i64 i) (hb:σ.H[b]?=some (.cells [.sl 4 rows tok])) (hr:rows[i]?=some r) (hl:r.length=4) :
 vcR Tryz.prog G false bwR3 false false bwM env σ (fun env' σ'=>σ'=σ∧env' 1=.ptr b 0∧env' 3=.int .i64 i∧env' 12=.int .i64 i∧env' 16=.agg r):=by
 obtain⟨x0,x1,x2,x3,rfl⟩:∃ x0 x1 x2 x3,r=[x0,x1,x2,x3]:=by
  match r,hl with
  | [x0,x1,x2,x3],_=>exact⟨_,_,_,_,rfl⟩
 simp [bwM,h1,h3,hb,hr]
theorem bw7 {i:Nat} (h1:env 1=.ptr b 0) (h3:env 3=.int .i64 i) (h17:env 17=.bool true) :
 vcR Tryz.prog G false bwR3 false false [bwO7] env σ (fun env' σ'=>σ'=σ∧env' 1=.ptr b 0∧env' 3=.int .i64 i∧env' 18=.bool false):=by
 simp [bwO7,h1,h3,h17]
/-- One round of the closure's loop, and its end. -/
theorem bwRound {S:Nat→St→Prop} {R:Exit→Act→World→Prop} (hround:∀ i σ' K' w',S (i+1) σ'→K.le K'→WRel G w0 ro0 K' σ' w'→∃ rows tok r,σ'.H[b]?=some (.cells [.sl 4 rows tok])∧rows[i]?=some r∧∀ v,VRel K' (.agg r) v →
 ∃ f tmps asn body,(Instr.yield L #[.int .i64 i,v]).run Tryz.prog w'=.ok (.round L f tmps asn body) w' ∧
  RoundIn Fence.wide 0 Tryz.prog L f tmps asn body w' (fun e w''=>e=.returned (.bool true)∧∃ K'' σ'',K'.le K''∧WRel G w0 ro0 K'' σ'' w''∧S i σ''))
 (hR:∀ K' σ' env' a' w',K.le K'→WRel G w0 ro0 K' σ' w'→ERel K' 19 env' a'→a'.defers=[]→S 0 σ'→R (.exit 0) a' w')
 (hw:WRel G w0 ro0 K σ w) (he:ERel K 19 env a) (hd:a.defers=[]) (ht:a.tmps.getD 0 undef=.func (.yield L) #[] #[]) (h1:env 1=.ptr b 0) {m:Nat} (h3:env 3=.int .i64 ((m:Int)-1)) (hm:m<2 ^ 62) (hS:S m σ) :
 Code.wpIn (FR none) 0 Tryz.prog (.loop (.seq (.seq (.region 1 bwR1 false) (.cond (.tmp 8) .skip (.exit 0))) (.seq (.block 1 (.seq (.region 3 bwR3 false) (.cond (.tmp 18) .ret .skip))) (.region 2 bwR2 false)))) R a w:=by
 refine wpIn_loop_ghost (fun n a w=>∃ K' env σ,K.le K'∧WRel G w0 ro0 K' σ w∧ERel K' 19 env a∧a.defers=[]∧a.tmps.getD 0 undef=.func (.yield L) #[] #[]∧env 1=.ptr b 0∧env 3=.int .i64 ((n:Int)-1)∧n<2 ^ 62∧S n σ) m
  ⟨K,env,σ,Kn.le_refl K,hw,he,hd,ht,h1,h3,hm,hS⟩ ?_
 clear hw he hd ht h1 h3 hm hS
 rintro n a w ⟨K1,env1,σ1,hle1,hw1,he1,hd1,ht1,e1,e3,hn,hS⟩
 refine wpIn_seq (wpIn_seq (region_keep (t:=0) hw1 he1 (by kernel_rfl) (by simp [bwR1]) (bw1 e1 e3) ?_))
 rintro K2 env2 σ2 a2 w2 hle2 hw2 he2 hd2 ht2 ⟨rfl,f1,f3,f8⟩
 have hc:=ev_rel hw2 he2 (.tmp 8)
 simp only [ev,f8,VRel] at hc
 refine wpIn_cond_split hc (fun hpos=>wpIn_skip ?_) (fun hneg=>wpIn_exit ?_)
 rotate_left
 · have:n=0:=by simp at hneg;omega
   subst this
   exact hR K2 σ2 env2 a2 w2 (Kn.le_trans hle1 hle2) hw2 he2 (hd2.trans hd1) hS
 obtain⟨i,rfl⟩:∃ i,n=i+1:=⟨n-1,by simp at hpos;omega⟩
 have f3:env2 3=.int .i64 (i:Int):=by rw [f3];congr 1;omega
 have ht2:=ht2.trans ht1
 have hd2:=hd2.trans hd1
 have hle2:=Kn.le_trans hle1 hle2
 obtain⟨rows,tok,r,hb,hr,_⟩:=hround i σ2 K2 w2 hS hle2 hw2
 have hlr:=(row_len hw2 hb hr).1
 refine wpIn_seq (wpIn_block (wpIn_seq (wpIn_region_list ?_)))
 -- the first operation
 show wpListIn (FR none) 0 Tryz.prog bwR3 _ (bwO0::(bwM++[bwO6,bwO7])) a2 w2
 unfold wpListIn
 rw [if_pos (show Region.wanted bwO0 (yielded bwR3 a2.tmps)=true from rfl)]
 refine⟨fun _ _=>trivial,?_⟩
 show wpListIn (FR none) 0 Tryz.prog bwR3 _ (bwM++[bwO6,bwO7]) (a2.put (some 11) (a2.tmps.getD 0 undef)) w2
 have he3:ERel K2 19 (upd env2 (some 11) .any) (a2.put (some 11) (a2.tmps.getD 0 undef)):=he2.put (fun d hd=>by cases hd;decide) (by simp [VRel])
 have hsz:a2.tmps.size=19:=he2.size
 refine vcR_soundIn (ro:=none) (n:=0) (quiet_noX _) (by kernel_rfl) bwM _ σ2 K2 _ w2 (by simp [bwR3];intro o ho;exact .inr (.inl ho)) (bwm (by simpa using f1) (by simpa using f3) hb hr hlr) hw2 he3 ?_
 rintro K4 env4 σ4 a4 w4 hle4 hw4 he4 hd4 ht4 ⟨rfl,g1,g3,g12,g16⟩
 have t11:=ht4 11 (by simp [bwM])
 have t0:=ht4 0 (by simp [bwM])
 rw [ht2] at t0 t11
 have t11:a4.tmps.getD 11 undef=.func (.yield L) #[] #[]:=by rw [t11];simp [Act.put,hsz]
 have t0:a4.tmps.getD 0 undef=.func (.yield L) #[] #[]:=by rw [t0];simp [Act.put];simpa using ht2
 have v12:=he4.val 12
 rw [g12] at v12
 simp only [VRel] at v12
 have v16:=he4.val 16
 rw [g16] at v16
 obtain⟨rows',tok',r',hb',hr',hyield⟩:=hround i σ4 K4 w4 hS (Kn.le_trans hle2 hle4) hw4
 have:r'=r:=by
  rw [hb] at hb'
  cases hb'
  rw [hr] at hr'
  cases hr'
  rfl
 subst this
 obtain⟨f,tmps,asn,body,hy,hround'⟩:=hyield _ v16
 have hd4:a4.defers=[]:=by rw [hd4,Act.put_defers',hd2]
 unfold wpListIn
 rw [if_pos (show Region.wanted bwO6 (yielded bwR3 a4.tmps)=true from rfl)]
 refine⟨fun _ _=>trivial,?_⟩
 have hx:(Oper.semAt none a4.eval bwO6).run Tryz.prog w4=.ok (.round L f tmps asn body) w4:=by
  rw [Oper.semAt_none]
  have x11:a4.eval (.tmp 11)=.func (.yield L) #[] #[]:=t11
  have x12:a4.eval (.tmp 12)=.int .i64 i:=v12
  simp [execOp,bwO6,resolve,x11,x12,Deferred.ofValue,invoke]
  exact hy
 show bwO6.uponIn (FR none) 0 Tryz.prog a4 _ _ ((Oper.semAt none a4.eval bwO6).run Tryz.prog w4)
 rw [hx,Oper.uponIn_round]
 refine⟨fun e=>by simp [Fence.wide] at e,RoundIn.mono (F:=FR none) (show RoundIn (FR none) 0 Tryz.prog L f tmps asn body w4 _ from hround') ?_⟩
 rintro e w5 ⟨rfl,K5,σ5,hle5,hw5,hS5⟩
 have he5:ERel K5 19 (upd env4 (some 17) (.bool true)) (a4.put (some 17) (.bool true)):=(he4.mono hle5).put (fun d hd=>by cases hd;decide) (by simp [VRel])
 show wpListIn (FR none) 0 Tryz.prog bwR3 _ ([bwO7]++[]) (a4.put (some 17) (.bool true)) w5
 refine vcR_soundIn (ro:=none) (n:=0) (N:=19) (ops:=bwR3) (quiet_noX _) (by kernel_rfl) (more:=[]) [bwO7] _ σ5 K5 _ w5 (by simp [bwR3]) (bw7 (i:=i) (by simpa using g1) (by simpa using g3) (by simp)) hw5 he5 ?_
 rintro K6 env6 σ6 a6 w6 hle6 hw6 he6 hd6 ht6 ⟨rfl,k1,k3,k18⟩
 have t0':=ht6 0 (by simp [bwO7])
 have t0':a6.tmps.getD 0 undef=.func (.yield L) #[] #[]:=by
  rw [t0',← t0];simp [Act.put]
 have hd6:a6.defers=[]:=by rw [hd6,Act.put_defers',hd4]
 have hc6:=ev_rel hw6 he6 (.tmp 18)
 simp only [ev,k18,VRel] at hc6
 refine wpIn_cond_false hc6 (wpIn_skip ?_)
 refine region_keep (t:=0) hw6 he6 (by kernel_rfl) (by simp [bwR2]) (bw2 k1 k3 (by omega)) ?_
 rintro K7 env7 σ7 a7 w7 hle7 hw7 he7 hd7 ht7 ⟨rfl,l1,l3⟩
 exact⟨i,Nat.lt_succ_self i,K7,env7,σ7,Kn.le_trans hle2 (Kn.le_trans hle4 (Kn.le_trans hle5 (Kn.le_trans hle6 hle7))),hw7,he7,hd7.trans hd6,ht7.trans t0',l1,l3,by omega,hS5⟩
theorem bodied191:bodied Tryz.prog 255=true:=by
 simp [bodied,Tryz.func255,Tryz.f255]
end
end Go.Proofs.YtkodonalmdmgpaaGreatDoor
end
section
namespace Go.Proofs.YtkodonalmdmgpaaGreatDoor
open Go Go.Abs
theorem getD_first (x y:Value) (z:Array Value):(#[x,y]++z).getD 0 undef=x:=by simp [Array.getD_eq_getD_getElem?,Array.getElem?_append]
theorem bw191 (G:Nat→AV):BwOk Tryz.prog G 255 4:=by
 refine⟨bodied191,?_⟩
 intro w0 ro0 b L B K σ w sz rows tok S hw hB hb hlen hS hround
 refine callsIn_of_wp (F:=FR none) (n:=0) Tryz.func255 bwBody trivial ?_
 have hvs:VRels K [.any,.ptr b 0] (#[.func (.yield L) #[] #[],.pointer (some ⟨B,0,none⟩)]:Array Value).toList:=by
  simp only [VRels,VRel];exact⟨_,_,rfl,trivial,_,_,rfl,⟨B,hB,rfl⟩,rfl⟩
 have he:=ERel.enter (n:=19) hvs (by simp)
 have ht:((#[.func (.yield L) #[] #[],.pointer (some ⟨B,0,none⟩)]++Array.replicate (19-(#[.func (.yield L) #[] #[],.pointer (some ⟨B,0,none⟩)]:Array Value).size) undef):Array Value).getD 0 undef=.func (.yield L) #[] #[]:=getD_first _ _ _
 rw [Tryz.ntmps255]
 unfold bwCode
 have hs0:slotsOk 19 bwR0=true:=by kernel_rfl
 refine wpIn_seq (region_keep (t:=0) hw he hs0 (by simp [bwR0]) (bw0 (by simp [envOf]) hb hlen) ?_)
 rintro K1 env1 σ1 a1 w1 hle1 hw1 he1 hd1 ht1 ⟨rfl,e1,e3⟩
 refine wpIn_block (bwRound (S:=S) (fun i σ' K' w' hs hle=>hround i σ' K' w' hs (Kn.le_trans hle1 hle)) ?_ hw1 he1 hd1 (ht1.trans ht) e1 e3 hlen hS)
 intro K' σ' env' a' w' hle' hw' he' hd' hs'
 have hres:(results Tryz.f255 a'.tmps).run Tryz.prog w'=.ok (.tuple #[]) w':=by
  simp [results,Tryz.results255]
 simp only [Exit.inBlock,↓reduceIte]
 refine bodyPost_end hres hd' ?_
 exact⟨⟨_,rfl⟩,K',σ',Kn.le_trans hle1 hle',hw',hs'⟩
def tokLe:Tok→Tok→Bool
 | _,.none=>true
 | .nil,.nil=>true
 | .tight,.tight=>true
 | _,_=>false
theorem tokLe_spec {a b:Tok} (h:tokLe a b=true):b=.none∨b=a:=by
 cases a<;>cases b<;>simp [tokLe] at h ⊢
mutual
/-- Less is known of the second. -/
def leqB:AV→AV→Bool
 | .bool a,.bool b=>a==b
 | .int k a,.int k' b=>decide (k=k')&&(a==b)
 | .str a,.str b=>a==b
 | .sl sz r tok,.sl sz' r' tok'=>(Nat.beq sz sz' && (tokLe tok tok' && leqR r r'))||(r.isEmpty&&(r'.isEmpty&&!tok'.known))
 | .agg c,.agg c'=>leqL c c'
 | _,_=>false
def leqL:List AV→List AV→Bool
 | [],[]=>true
 | a::r,b::s=>leqB a b&&leqL r s
 | _,_=>false
def leqR:List (List AV)→List (List AV)→Bool
 | [],[]=>true
 | a::r,b::s=>leqL a b&&b.all AV.atom&&leqR r s
 | _,_=>false
end
mutual
theorem leqB_spec:∀ (a b:AV),leqB a b=true→Leq a b
 | .bool a,b,h=>by
  cases b<;>simp [leqB] at h
  subst h;exact Leq.refl _
 | .int k a,b,h=>by
  cases b<;>simp [leqB] at h
  obtain⟨rfl,rfl⟩:=h;exact Leq.refl _
 | .str a,b,h=>by
  cases b<;>simp [leqB] at h
  subst h;exact Leq.refl _
 | .sl sz r tok,b,h=>by
  cases b<;>simp only [leqB] at h<;>try (cases h;done)
  rename_i sz' r' tok'
  simp only [Bool.and_eq_true,Bool.or_eq_true] at h
  simp only [Leq]
  rcases h with h|h
  · exact .inr ⟨Nat.eq_of_beq_eq_true h.1,leqR_spec r r' h.2.2,tokLe_spec h.2.1⟩
  · have ht:tok'=.none:=by have:=h.2.2;cases tok'<;>simp [Tok.known] at this ⊢
    exact .inl ⟨by simpa using h.1,by simpa using h.2.1,ht⟩
 | .agg c,b,h=>by
  cases b<;>simp only [leqB] at h<;>try (cases h;done)
  simp only [Leq]
  exact leqL_spec _ _ h
 | .any,b,h=>by simp [leqB] at h
 | .nilp,b,h=>by simp [leqB] at h
 | .ptr ..,b,h=>by simp [leqB] at h
 | .rptr _,b,h=>by simp [leqB] at h
 | .ms ..,b,h=>by simp [leqB] at h
 | .nilm,b,h=>by simp [leqB] at h
 | .map _,b,h=>by simp [leqB] at h
 | .iter _,b,h=>by simp [leqB] at h
 | .fn ..,b,h=>by simp [leqB] at h
 | .nilf,b,h=>by simp [leqB] at h
 | .tup _,b,h=>by simp [leqB] at h
theorem leqL_spec:∀ (a b:List AV),leqL a b=true→LeqL a b
 | [],[],_=>by simp [LeqL]
 | a::r,b::s,h=>by
  simp only [leqL,Bool.and_eq_true] at h
  simp only [LeqL]
  exact⟨leqB_spec a b h.1,leqL_spec r s h.2⟩
 | [],_::_,h=>by simp [leqL] at h
 | _::_,[],h=>by simp [leqL] at h
theorem leqR_spec:∀ (a b:List (List AV)),leqR a b=true→LeqR a b
 | [],[],_=>by simp [LeqR]
 | a::r,b::s,h=>by
  simp only [leqR,Bool.and_eq_true] at h
  simp only [LeqR]
  exact⟨.inr ⟨leqL_spec a b h.1.1,h.1.2⟩,leqR_spec r s h.2⟩
 | [],_::_,h=>by simp [leqR] at h
 | _::_,[],h=>by simp [leqR] at h
end
def C1 (g:FuncId) (args:List AV):Option AV:=match Nat.beq g 36 with
 | true=>match args with
  | [.str s]=>some (.bool (nameS s))
  | _=>none
 | false=>match Nat.beq g 357 with
  | true=>match args with
   | [.str s,.int .u8 c]=>some (.int .i64 (Lib.indexByte s c.toNat.toUInt8))
   | _=>none
  | false=>none
theorem C1_ok:ConOk Tryz.prog GG C1:=by
 intro g args r hno h
 unfold C1 at h
 split at h
 · rename_i hg
   split at h
   · cases h
     rw [Nat.eq_of_beq_eq_true hg]
     exact isName168 _
   · cases h
 · split at h
   · rename_i hg
     split at h
     · cases h
       rw [Nat.eq_of_beq_eq_true hg]
       exact indexByte368 _ _ _
     · cases h
   · cases h
def leqT (a b:AV):Bool:=match a,b with
 | .tup c,.tup d=>leqL c d
 | a,b=>leqB a b
theorem leqT_spec {a b:AV} (h:leqT a b=true):Leq a b:=by
 unfold leqT at h
 split at h
 · simp only [Leq];exact leqL_spec _ _ h
 · exact leqB_spec _ _ h
noncomputable def closedA (F:Nat→Option Bod) (K:FuncId→Bool) (X:FuncId→List AV→Option AV) (m n:Nat) (g:FuncId) (args:List AV) (r:AV):Bool:=match F g with
 | some b=>Nat.ble args.length b.n&&(match outX DD GG F C1 K X m n b args with
  | some r'=>leqT r' r
  | none=>false)
 | none=>false
theorem Pure.closedA {F:Nat→Option Bod} {K:FuncId→Bool} {X:FuncId→List AV→Option AV} (hF:BodOk Tryz.prog GG F) (hX:ConX Tryz.prog GG X) (m n:Nat) {g:FuncId} {args:List AV} {r:AV} (h:closedA F K X m n g args r=true):Pure Tryz.prog GG g args r:=by
 unfold Go.Proofs.YtkodonalmdmgpaaGreatDoor.closedA at h
 split at h
 · rename_i b hb
   simp only [Bool.and_eq_true] at h
   obtain⟨h1,h2⟩:=h
   split at h2
   · rename_i r' hr
     exact Pure.sub (G:=quiet GG) (Pure.outX mixed DD_eq hF C1_ok hX hb (Nat.le_of_ble_eq_true h1) hr) (LeqL.refl _) (leqT_spec h2)
   · cases h2
 · cases h
/-- The last arguments are looked at first. -/
def leqQ:List AV→List AV→Bool
 | [],[]=>true
 | a::r,b::s=>leqQ r s&&leqB a b
 | _,_=>false
theorem leqQ_spec:∀ (a b:List AV),leqQ a b=true→LeqL a b
 | [],[],_=>by simp [LeqL]
 | a::r,b::s,h=>by
  simp only [leqQ,Bool.and_eq_true] at h
  simp only [LeqL]
  exact⟨leqB_spec a b h.2,leqQ_spec r s h.1⟩
 | [],_::_,h=>by simp [leqQ] at h
 | _::_,[],h=>by simp [leqQ] at h
def pickB {α:Type} (b:Bool) (x y:α):α:=match b with
 | true=>x
 | false=>y
theorem pickB_cases {α:Type} {p:α→Prop} {b:Bool} {x y:α} (hx:b=true→p x) (hy:p y):p (pickB b x y):=by
 cases b
 · exact hy
 · exact hx rfl
def K0 (_:FuncId):Bool:=false
def X0 (_:FuncId) (_:List AV):Option AV:=none
theorem X0_ok:ConX Tryz.prog GG X0:=fun _ _ _ h=>by cases h
/-- A step of a table of contracts. -/
theorem conX_step {b:FuncId} {a:List AV} {s:AV} {k:Option AV} {g:FuncId} {args:List AV} {r:AV} (hp:Pure Tryz.prog GG b a s) (hk:pickB (Nat.beq g b&&leqQ args a) (some s) k=some r):Pure Tryz.prog GG g args r∨k=some r:=by
 cases hb:(Nat.beq g b&&leqQ args a)
 · rw [hb] at hk;exact .inr hk
 · rw [hb] at hk
   simp only [Bool.and_eq_true] at hb
   cases hk
   rw [Nat.eq_of_beq_eq_true hb.1]
   exact .inl (Pure.less (G:=quiet GG) hp (leqQ_spec _ _ hb.2))
theorem conX_eq {b:FuncId} {a:List AV} {s:AV} {k:Option AV} {g:FuncId} {args:List AV} {r:AV} (hp:Pure Tryz.prog GG b a s) (hk:pickB (Nat.beq g b&&eqVL args a) (some s) k=some r):Pure Tryz.prog GG g args r∨k=some r:=by
 cases hb:(Nat.beq g b&&eqVL args a)
 · rw [hb] at hk;exact .inr hk
 · rw [hb] at hk
   simp only [Bool.and_eq_true] at hb
   cases hk
   rw [Nat.eq_of_beq_eq_true hb.1,eqVL_spec _ _ hb.2]
   exact .inl hp
def looksA (g:Nat):Look :=
 pickB (Nat.beq g 23) ⟨⟨false,[],[],[]⟩,true⟩ <|
 pickB (Nat.beq g 24) ⟨⟨false,[],[],[]⟩,true⟩ <|
 pickB (Nat.beq g 27) ⟨⟨false,[(7,.step 0 [20,19,18,17,14,13,12,11,10,9,3,2,1] (.step 1 [20,19,18,17,14,13,12,11,10,9,3,2] (.step 2 [20,19,18,17,14,13,12,11,10,9,3] (.step 3 [20,19,18,17,14,13,12,11,10,9] (.step 4 [20,19,18,17,14,13,12,11,10,9,7,6,5] (.step 5 [20,19,18,17,14,13,12,11,10,9,7,6] (.step 6 [20,19,18,17,14,13,12,11,10,9,7] (.step 7 [20,19,18,17,14,13,12,11,10,9] (.step 8 [20,19,18,17,14,13,12,11,10,9] (.step 9 [20,19,18,17,14,13,12,11,10] (.step 10 [20,19,18,17,14,13,12,11] (.step 11 [20,19,18,17] (.step 12 [20,19,18] (.step 13 [20,19] (.step 14 [20] (.fork (.cons 15 (.step 16 [20,19,18,17] (.step 17 [20,19,18] (.step 18 [20,19] (.step 19 [20] (.step 20 [] (.done)))))) (.cons 16 (.step 15 [20,19,18,17] (.step 17 [20,19,18] (.step 18 [20,19] (.step 19 [20] (.step 20 [] (.done)))))) (.nil)))))))))))))))))),[])],[],[]⟩,true⟩ <|
 pickB (Nat.beq g 29) ⟨⟨false,[],[],[]⟩,true⟩ <|
 pickB (Nat.beq g 30) ⟨⟨false,[(8,.step 0 [4,3] (.step 1 [4,3,2] (.step 2 [4,3] (.step 3 [4] (.step 4 [] (.done))))),[])],[],[]⟩,false⟩ <|
 pickB (Nat.beq g 31) ⟨⟨false,[(4,.step 0 [4,3,2] (.step 1 [4,3] (.step 2 [4,3] (.step 3 [4] (.step 4 [] (.done))))),[])],[],[]⟩,true⟩ <|
 pickB (Nat.beq g 32) ⟨⟨false,[(4,.step 0 [16,15,14,13,12] (.step 1 [16,15,14,13,12,5,4,2] (.step 2 [16,15,14,13,12,5,4] (.step 3 [16,15,14,13,12,5,4] (.step 4 [16,15,14,13,12,5] (.step 5 [16,15,14,13,12] (.step 6 [16,15,14,13,12,10,7] (.step 7 [16,15,14,13,12,10] (.step 8 [16,15,14,13,12,10,9] (.step 9 [16,15,14,13,12,10] (.step 10 [16,15,14,13,12] (.step 11 [16,15,14,13,12] (.step 12 [16,15,14,13] (.step 13 [16,15] (.step 14 [16,15] (.step 15 [16] (.step 16 [] (.done))))))))))))))))),[12])],[],[]⟩,true⟩ <|
 pickB (Nat.beq g 33) ⟨⟨false,[],[],[]⟩,true⟩ <|
 pickB (Nat.beq g 35) ⟨⟨true,[],[],[]⟩,false⟩ <|
 pickB (Nat.beq g 40) ⟨⟨false,[(4,.step 0 [18,17,15,14,13,12,3,2,1] (.step 1 [18,17,15,14,13,12,3,2] (.step 2 [18,17,15,14,13,12,3] (.step 3 [18,17,15,14,13,12] (.step 4 [18,17,15,14,13,12,5] (.step 5 [18,17,15,14,13,12] (.step 6 [18,17,15,14,13,12,9,8,7] (.step 7 [18,17,15,14,13,12,9,8] (.step 8 [18,17,15,14,13,12,9] (.step 9 [18,17,15,14,13,12] (.step 10 [18,17,15,14,13,12,11] (.step 11 [18,17,15,14,13,12] (.step 12 [18,17,15,14,13] (.step 13 [18,17,15,14] (.step 14 [18,17] (.step 15 [18] (.step 16 [18,17] (.step 17 [18] (.step 18 [] (.done))))))))))))))))))),[]),(7,.step 1 [5,4,3,2] (.fork (.cons 0 (.step 2 [5,4,3] (.step 3 [5,4] (.step 4 [5] (.step 5 [] (.done))))) (.cons 2 (.step 0 [5,4,3] (.step 3 [5,4] (.step 4 [5] (.step 5 [] (.done))))) (.nil)))),[2])],[],[]⟩,true⟩ <|
 pickB (Nat.beq g 47) ⟨⟨false,[(1,.step 0 [6,5,4,1] (.step 1 [6,5,4] (.step 2 [6,5,4,3] (.step 3 [6,5,4] (.step 4 [6,5] (.step 5 [6] (.step 6 [] (.done))))))),[])],[],[]⟩,false⟩ <|
 pickB (Nat.beq g 49) ⟨⟨false,[],[],[]⟩,true⟩ <|
 pickB (Nat.beq g 51) ⟨⟨true,[],[],[]⟩,true⟩ <|
 pickB (Nat.beq g 55) ⟨⟨false,[(12,.step 0 [8,7,6,2,1] (.step 1 [8,7,6,2] (.step 2 [8,7,6] (.step 3 [8,7,6,5,4] (.step 4 [8,7,6,5] (.step 5 [8,7,6] (.step 6 [8,7] (.step 7 [8] (.step 8 [] (.done))))))))),[])],[],[]⟩,false⟩ <|
 pickB (Nat.beq g 62) ⟨⟨false,[(10,.step 0 [8,6,5] (.step 1 [8,6,5,3,2] (.step 2 [8,6,5,3] (.step 3 [8,6,5] (.fork (.cons 4 (.step 5 [8,6] (.fork (.cons 6 (.step 7 [8] (.step 8 [] (.done))) (.cons 7 (.step 6 [8] (.step 8 [] (.done))) (.nil))))) (.cons 7 (.step 4 [8,6,5] (.step 5 [8,6] (.step 6 [8] (.step 8 [] (.done))))) (.nil))))))),[])],[],[]⟩,false⟩ <|
 pickB (Nat.beq g 72) ⟨⟨false,[(23,.step 0 [4,3,2] (.step 1 [4,3] (.step 2 [4,3] (.step 3 [4] (.step 4 [] (.done))))),[])],[],[]⟩,false⟩ <|
 pickB (Nat.beq g 73) ⟨⟨true,[],[],[]⟩,true⟩ <|
 pickB (Nat.beq g 80) ⟨⟨false,[(6,.step 0 [10,9] (.step 1 [10,9,8,7,6,5,4,3,2] (.step 2 [10,9,8,7,6,5,4,3] (.step 3 [10,9,8,7,6,5,4] (.step 4 [10,9,8,7,6,5] (.step 5 [10,9,8,7,6] (.step 6 [10,9,8] (.step 7 [10,9] (.step 8 [10,9] (.step 9 [10] (.step 10 [] (.done))))))))))),[])],[],[]⟩,true⟩ <|
 pickB (Nat.beq g 81) ⟨⟨false,[(3,.step 0 [3,2] (.step 1 [3] (.step 2 [3] (.step 3 [] (.done)))),[])],[],[]⟩,false⟩ <|
 pickB (Nat.beq g 100) ⟨⟨false,[(13,.step 0 [8,7,6,5,2,1] (.step 1 [8,7,6,5,2] (.step 2 [8,7,6,5] (.step 3 [8,7,6,5,4] (.step 4 [8,7,6,5] (.step 5 [8,7,6] (.step 6 [8,7] (.step 7 [8] (.step 8 [] (.done))))))))),[])],[],[]⟩,false⟩ <|
 pickB (Nat.beq g 101) ⟨⟨false,[],[],[]⟩,true⟩ <|
 pickB (Nat.beq g 107) ⟨⟨false,[(11,.step 0 [10,9,8,4,3,2,1] (.step 1 [10,9,8,4,3,2] (.step 2 [10,9,8,4,3] (.step 3 [10,9,8,4] (.step 4 [10,9,8] (.step 5 [10,9,8] (.step 6 [10,9,8,7] (.step 7 [10,9,8] (.step 8 [10,9] (.step 9 [10] (.step 10 [] (.done))))))))))),[])],[],[]⟩,true⟩ <|
 pickB (Nat.beq g 108) ⟨⟨false,[],[],[]⟩,true⟩ <|
 pickB (Nat.beq g 109) ⟨⟨false,[],[],[]⟩,true⟩ <|
 pickB (Nat.beq g 111) ⟨⟨false,[(5,.step 0 [12,11,9,8,7,6,1] (.step 1 [12,11,9,8,7,6] (.step 2 [12,11,9,8,7,6,5,4,3] (.step 3 [12,11,9,8,7,6,5,4] (.step 4 [12,11,9,8,7,6,5] (.step 5 [12,11,9,8,7,6] (.step 6 [12,11,9,8,7] (.step 7 [12,11,9,8] (.step 8 [12,11] (.step 9 [12] (.step 10 [12,11] (.step 11 [12] (.step 12 [] (.done))))))))))))),[]),(8,.step 0 [11,10,9,8,7,5,2,1] (.step 1 [11,10,9,8,7,5,2] (.step 2 [11,10,9,8,7,5] (.step 3 [11,10,9,8,7,4] (.step 4 [11,10,9,8,7] (.step 5 [11,10,9,8,7] (.step 6 [11,10,9,8,7] (.step 7 [11,10,9,8] (.step 8 [9] (.step 10 [11] (.fork (.cons 9 (.step 11 [] (.done)) (.cons 11 (.step 9 [] (.done)) (.nil))))))))))))),[])],[],[]⟩,false⟩ <|
 pickB (Nat.beq g 124) ⟨⟨false,[],[],[]⟩,true⟩ <|
 pickB (Nat.beq g 128) ⟨⟨false,[],[],[]⟩,true⟩ <|
 pickB (Nat.beq g 129) ⟨⟨false,[],[],[]⟩,true⟩ <|
 pickB (Nat.beq g 130) ⟨⟨false,[],[],[]⟩,true⟩ <|
 pickB (Nat.beq g 146) ⟨⟨false,[],[],[(255,4)]⟩,true⟩ <|
 pickB (Nat.beq g 149) ⟨⟨false,[],[],[]⟩,true⟩ <|
 pickB (Nat.beq g 150) ⟨⟨false,[],[],[]⟩,true⟩ <|
 pickB (Nat.beq g 151) ⟨⟨false,[],[],[]⟩,true⟩ <|
 pickB (Nat.beq g 154) ⟨⟨false,[],[],[]⟩,true⟩ <|
 pickB (Nat.beq g 161) ⟨⟨false,[],[],[]⟩,true⟩ <|
 pickB (Nat.beq g 162) ⟨⟨false,[],[],[]⟩,true⟩ <|
 pickB (Nat.beq g 170) ⟨⟨true,[],[],[]⟩,false⟩ <|
 pickB (Nat.beq g 184) ⟨⟨false,[],[],[]⟩,true⟩ <|
 pickB (Nat.beq g 185) ⟨⟨false,[],[],[]⟩,true⟩ <|
 pickB (Nat.beq g 203) ⟨⟨false,[],[],[]⟩,true⟩ <|
 pickB (Nat.beq g 204) ⟨⟨false,[(7,.step 0 [12,11,10,9] (.step 1 [12,11,10,9,8,5,4,3,2] (.step 2 [12,11,10,9,8,5,4,3] (.step 3 [12,11,10,9,8,5,4] (.step 4 [12,11,10,9,8,5] (.step 5 [12,11,10,9,8] (.step 6 [12,11,10,9,8,7] (.step 7 [12,11,10,9,8] (.step 8 [12,11,10,9] (.step 9 [12,11,10] (.step 10 [12,11] (.step 11 [12] (.step 12 [] (.done))))))))))))),[]),(14,.step 0 [8,7,4,3,2,1] (.step 1 [8,7,4,3,2] (.step 2 [8,7,4,3] (.step 3 [8,7,4] (.step 4 [8,7] (.step 5 [8,7] (.step 6 [8,7] (.step 7 [8] (.step 8 [] (.done))))))))),[]),(15,.step 0 [12,11,10,9] (.step 1 [12,11,10,9,8,5,4,3,2] (.step 2 [12,11,10,9,8,5,4,3] (.step 3 [12,11,10,9,8,5,4] (.step 4 [12,11,10,9,8,5] (.step 5 [12,11,10,9,8] (.step 6 [12,11,10,9,8,7] (.step 7 [12,11,10,9,8] (.step 8 [12,11,10,9] (.step 9 [12,11,10] (.step 10 [12,11] (.step 11 [12] (.step 12 [] (.done))))))))))))),[])],[],[]⟩,true⟩ <|
 pickB (Nat.beq g 207) ⟨⟨false,[(7,.step 0 [12,11,5] (.step 1 [12,11,5,4,3] (.step 2 [12,11,5,4,3] (.step 3 [12,11,5,4] (.step 4 [12,11,5] (.step 6 [12,11] (.step 7 [12,11,10,9] (.step 8 [12,11,10,9] (.step 9 [12,11,10] (.fork (.cons 5 (.step 10 [12,11] (.step 11 [12] (.step 12 [] (.done)))) (.cons 10 (.step 5 [12,11] (.step 11 [12] (.step 12 [] (.done)))) (.nil)))))))))))),[5,11])],[],[]⟩,false⟩ <|
 pickB (Nat.beq g 209) ⟨⟨false,[(7,.step 0 [12,11,5] (.step 1 [12,11,5,4,3] (.step 2 [12,11,5,4,3] (.step 3 [12,11,5,4] (.step 4 [12,11,5] (.step 6 [12,11] (.step 7 [12,11,10,9] (.step 8 [12,11,10,9] (.step 9 [12,11,10] (.fork (.cons 5 (.step 10 [12,11] (.step 11 [12] (.step 12 [] (.done)))) (.cons 10 (.step 5 [12,11] (.step 11 [12] (.step 12 [] (.done)))) (.nil)))))))))))),[5,11])],[],[]⟩,false⟩ <|
 pickB (Nat.beq g 222) ⟨⟨false,[],[],[]⟩,true⟩ <|
 pickB (Nat.beq g 223) ⟨⟨true,[],[],[]⟩,false⟩ <|
 pickB (Nat.beq g 232) ⟨⟨false,[],[],[]⟩,true⟩ <|
 pickB (Nat.beq g 237) ⟨⟨false,[],[],[]⟩,true⟩ <|
 pickB (Nat.beq g 238) ⟨⟨false,[(13,.step 0 [15,14] (.step 1 [15,14] (.step 2 [15,14] (.step 3 [15,14] (.step 4 [15,14,13,6,5] (.step 7 [15,14,13,12] (.step 8 [15,14,13,12,9] (.step 9 [15,14,13,12] (.step 10 [15,14,13,12] (.step 11 [15,14,13,12] (.fork (.cons 5 (.step 6 [15,14,13] (.step 12 [15,14,13] (.step 13 [15,14] (.step 14 [15] (.step 15 [] (.done)))))) (.cons 12 (.step 5 [15,14,13,6] (.step 6 [15,14,13] (.step 13 [15,14] (.step 14 [15] (.step 15 [] (.done)))))) (.nil))))))))))))),[12,14])],[],[]⟩,true⟩ <|
 pickB (Nat.beq g 292) ⟨⟨false,[],[],[]⟩,true⟩ <|
 pickB (Nat.beq g 303) ⟨⟨false,[(7,.step 0 [12,11,5] (.step 1 [12,11,5,4,3] (.step 2 [12,11,5,4,3] (.step 3 [12,11,5,4] (.step 4 [12,11,5] (.step 6 [12,11] (.step 7 [12,11,10,9] (.step 8 [12,11,10,9] (.step 9 [12,11,10] (.fork (.cons 5 (.step 10 [12,11] (.step 11 [12] (.step 12 [] (.done)))) (.cons 10 (.step 5 [12,11] (.step 11 [12] (.step 12 [] (.done)))) (.nil)))))))))))),[5,11])],[],[]⟩,false⟩ <|
 ⟨o0,false⟩
theorem looksA_bw (G:Nat→AV):∀ g x k,(looksA g).o.bw.lookup x=some k→BwOk Tryz.prog G x k:=by
 intro g x k h
 have e:(looksA g).o.bw=[]∨(looksA g).o.bw=[(255,4)]:=(pickB_cases (p:=fun l:Look=>l.o.bw=[]∨l.o.bw=[(255,4)]) (fun _=>.inl rfl) (pickB_cases (p:=fun l:Look=>l.o.bw=[]∨l.o.bw=[(255,4)]) (fun _=>.inl rfl) (pickB_cases (p:=fun l:Look=>l.o.bw=[]∨l.o.bw=[(255,4)]) (fun _=>.inl rfl) (pickB_cases (p:=fun l:Look=>l.o.bw=[]∨l.o.bw=[(255,4)]) (fun _=>.inl rfl) (pickB_cases (p:=fun l:Look=>l.o.bw=[]∨l.o.bw=[(255,4)]) (fun _=>.inl rfl) (pickB_cases (p:=fun l:Look=>l.o.bw=[]∨l.o.bw=[(255,4)]) (fun _=>.inl rfl) (pickB_cases (p:=fun l:Look=>l.o.bw=[]∨l.o.bw=[(255,4)]) (fun _=>.inl rfl) (pickB_cases (p:=fun l:Look=>l.o.bw=[]∨l.o.bw=[(255,4)]) (fun _=>.inl rfl) (pickB_cases (p:=fun l:Look=>l.o.bw=[]∨l.o.bw=[(255,4)]) (fun _=>.inl rfl) (pickB_cases (p:=fun l:Look=>l.o.bw=[]∨l.o.bw=[(255,4)]) (fun _=>.inl rfl) (pickB_cases (p:=fun l:Look=>l.o.bw=[]∨l.o.bw=[(255,4)]) (fun _=>.inl rfl) (pickB_cases (p:=fun l:Look=>l.o.bw=[]∨l.o.bw=[(255,4)]) (fun _=>.inl rfl) (pickB_cases (p:=fun l:Look=>l.o.bw=[]∨l.o.bw=[(255,4)]) (fun _=>.inl rfl) (pickB_cases (p:=fun l:Look=>l.o.bw=[]∨l.o.bw=[(255,4)]) (fun _=>.inl rfl) (pickB_cases (p:=fun l:Look=>l.o.bw=[]∨l.o.bw=[(255,4)]) (fun _=>.inl rfl) (pickB_cases (p:=fun l:Look=>l.o.bw=[]∨l.o.bw=[(255,4)]) (fun _=>.inl rfl) (pickB_cases (p:=fun l:Look=>l.o.bw=[]∨l.o.bw=[(255,4)]) (fun _=>.inl rfl) (pickB_cases (p:=fun l:Look=>l.o.bw=[]∨l.o.bw=[(255,4)]) (fun _=>.inl rfl) (pickB_cases (p:=fun l:Look=>l.o.bw=[]∨l.o.bw=[(255,4)]) (fun _=>.inl rfl) (pickB_cases (p:=fun l:Look=>l.o.bw=[]∨l.o.bw=[(255,4)]) (fun _=>.inl rfl) (pickB_cases (p:=fun l:Look=>l.o.bw=[]∨l.o.bw=[(255,4)]) (fun _=>.inl rfl) (pickB_cases (p:=fun l:Look=>l.o.bw=[]∨l.o.bw=[(255,4)]) (fun _=>.inl rfl) (pickB_cases (p:=fun l:Look=>l.o.bw=[]∨l.o.bw=[(255,4)]) (fun _=>.inl rfl) (pickB_cases (p:=fun l:Look=>l.o.bw=[]∨l.o.bw=[(255,4)]) (fun _=>.inl rfl) (pickB_cases (p:=fun l:Look=>l.o.bw=[]∨l.o.bw=[(255,4)]) (fun _=>.inl rfl) (pickB_cases (p:=fun l:Look=>l.o.bw=[]∨l.o.bw=[(255,4)]) (fun _=>.inl rfl) (pickB_cases (p:=fun l:Look=>l.o.bw=[]∨l.o.bw=[(255,4)]) (fun _=>.inl rfl) (pickB_cases (p:=fun l:Look=>l.o.bw=[]∨l.o.bw=[(255,4)]) (fun _=>.inl rfl) (pickB_cases (p:=fun l:Look=>l.o.bw=[]∨l.o.bw=[(255,4)]) (fun _=>.inl rfl) (pickB_cases (p:=fun l:Look=>l.o.bw=[]∨l.o.bw=[(255,4)]) (fun _=>.inr rfl) (pickB_cases (p:=fun l:Look=>l.o.bw=[]∨l.o.bw=[(255,4)]) (fun _=>.inl rfl) (pickB_cases (p:=fun l:Look=>l.o.bw=[]∨l.o.bw=[(255,4)]) (fun _=>.inl rfl) (pickB_cases (p:=fun l:Look=>l.o.bw=[]∨l.o.bw=[(255,4)]) (fun _=>.inl rfl) (pickB_cases (p:=fun l:Look=>l.o.bw=[]∨l.o.bw=[(255,4)]) (fun _=>.inl rfl) (pickB_cases (p:=fun l:Look=>l.o.bw=[]∨l.o.bw=[(255,4)]) (fun _=>.inl rfl) (pickB_cases (p:=fun l:Look=>l.o.bw=[]∨l.o.bw=[(255,4)]) (fun _=>.inl rfl) (pickB_cases (p:=fun l:Look=>l.o.bw=[]∨l.o.bw=[(255,4)]) (fun _=>.inl rfl) (pickB_cases (p:=fun l:Look=>l.o.bw=[]∨l.o.bw=[(255,4)]) (fun _=>.inl rfl) (pickB_cases (p:=fun l:Look=>l.o.bw=[]∨l.o.bw=[(255,4)]) (fun _=>.inl rfl) (pickB_cases (p:=fun l:Look=>l.o.bw=[]∨l.o.bw=[(255,4)]) (fun _=>.inl rfl) (pickB_cases (p:=fun l:Look=>l.o.bw=[]∨l.o.bw=[(255,4)]) (fun _=>.inl rfl) (pickB_cases (p:=fun l:Look=>l.o.bw=[]∨l.o.bw=[(255,4)]) (fun _=>.inl rfl) (pickB_cases (p:=fun l:Look=>l.o.bw=[]∨l.o.bw=[(255,4)]) (fun _=>.inl rfl) (pickB_cases (p:=fun l:Look=>l.o.bw=[]∨l.o.bw=[(255,4)]) (fun _=>.inl rfl) (pickB_cases (p:=fun l:Look=>l.o.bw=[]∨l.o.bw=[(255,4)]) (fun _=>.inl rfl) (pickB_cases (p:=fun l:Look=>l.o.bw=[]∨l.o.bw=[(255,4)]) (fun _=>.inl rfl) (pickB_cases (p:=fun l:Look=>l.o.bw=[]∨l.o.bw=[(255,4)]) (fun _=>.inl rfl) (pickB_cases (p:=fun l:Look=>l.o.bw=[]∨l.o.bw=[(255,4)]) (fun _=>.inl rfl) (pickB_cases (p:=fun l:Look=>l.o.bw=[]∨l.o.bw=[(255,4)]) (fun _=>.inl rfl) (pickB_cases (p:=fun l:Look=>l.o.bw=[]∨l.o.bw=[(255,4)]) (fun _=>.inl rfl) (.inl rfl)))))))))))))))))))))))))))))))))))))))))))))))))))
 rcases e with e|e<;>rw [e] at h
 · cases h
 · simp only [List.lookup] at h
   split at h
   · rename_i hx;cases h;rw [eq_of_beq hx];exact bw191 G
   · cases h
def SA:Nat:=603018349205074472740446724722465301340234543436405598770217864555836299464682500087951641280
theorem fokA:(List.range 512).all (fun g=>!Nat.testBit SA g||okF looksA g)=true:=by kernel_rfl
noncomputable def FA:Nat→Option Bod:=FF looksA SA
theorem FA_ok:BodOk Tryz.prog GG FA:=FF_ok (looksA_bw GG) fokA (by decide +kernel)
def looksB (g:Nat):Look :=
 pickB (Nat.beq g 41) ⟨⟨true,[(16,.step 1 [14,12,11,2] (.step 3 [14,12,11,10,4] (.step 4 [14,12,11,10] (.step 5 [14,12,11,10,9,8,6] (.step 6 [14,12,11,10,9,8] (.step 7 [14,12,11,10,9,8] (.step 8 [14,12,11,10,9] (.step 9 [14,12,11,10] (.fork (.cons 0 (.fork (.cons 2 (.fork (.cons 10 (.step 11 [14,12] (.step 12 [14] (.step 13 [14] (.step 14 [] (.done))))) (.cons 13 (.step 10 [14,12,11] (.step 11 [14,12] (.step 12 [14] (.step 14 [] (.done))))) (.nil)))) (.cons 10 (.step 2 [14,12,11] (.step 11 [14,12] (.step 12 [14] (.step 13 [14] (.step 14 [] (.done)))))) (.cons 13 (.fork (.cons 2 (.step 10 [14,12,11] (.step 11 [14,12] (.step 12 [14] (.step 14 [] (.done))))) (.cons 10 (.step 2 [14,12,11] (.step 11 [14,12] (.step 12 [14] (.step 14 [] (.done))))) (.nil)))) (.nil))))) (.cons 2 (.fork (.cons 0 (.fork (.cons 10 (.step 11 [14,12] (.step 12 [14] (.step 13 [14] (.step 14 [] (.done))))) (.cons 13 (.step 10 [14,12,11] (.step 11 [14,12] (.step 12 [14] (.step 14 [] (.done))))) (.nil)))) (.cons 10 (.step 0 [14,12] (.step 11 [14,12] (.step 12 [14] (.step 13 [14] (.step 14 [] (.done)))))) (.cons 13 (.fork (.cons 0 (.step 10 [14,12,11] (.step 11 [14,12] (.step 12 [14] (.step 14 [] (.done))))) (.cons 10 (.step 0 [14,12] (.step 11 [14,12] (.step 12 [14] (.step 14 [] (.done))))) (.nil)))) (.nil))))) (.cons 10 (.step 0 [14,12] (.step 2 [14,12,11] (.step 11 [14,12] (.step 12 [14] (.step 13 [14] (.step 14 [] (.done))))))) (.cons 13 (.fork (.cons 0 (.fork (.cons 2 (.step 10 [14,12,11] (.step 11 [14,12] (.step 12 [14] (.step 14 [] (.done))))) (.cons 10 (.step 2 [14,12,11] (.step 11 [14,12] (.step 12 [14] (.step 14 [] (.done))))) (.nil)))) (.cons 2 (.fork (.cons 0 (.step 10 [14,12,11] (.step 11 [14,12] (.step 12 [14] (.step 14 [] (.done))))) (.cons 10 (.step 0 [14,12] (.step 11 [14,12] (.step 12 [14] (.step 14 [] (.done))))) (.nil)))) (.cons 10 (.step 0 [14,12] (.step 2 [14,12,11] (.step 11 [14,12] (.step 12 [14] (.step 14 [] (.done)))))) (.nil))))) (.nil))))))))))))),[10]),(29,.step 0 [15,14,1] (.step 2 [15,14] (.step 3 [15,14,13,7,6,4] (.step 4 [15,14,13,7,6] (.step 5 [15,14,13,7,6] (.step 6 [15,14,13,7] (.step 7 [15,14,13] (.step 8 [15,14,13,12,11,10] (.step 9 [15,14,13,12,11,10] (.step 10 [15,14,13,12,11] (.step 11 [15,14,13,12] (.step 12 [15,14,13] (.fork (.cons 1 (.step 13 [15,14] (.step 14 [15] (.step 15 [] (.done)))) (.cons 13 (.step 1 [15,14] (.step 14 [15] (.step 15 [] (.done)))) (.nil))))))))))))))),[]),(31,.step 0 [6,5,4,3] (.step 1 [6,5,4] (.step 3 [6,5,4] (.fork (.cons 2 (.step 4 [6,5] (.step 5 [6] (.step 6 [] (.done)))) (.cons 4 (.step 2 [6,5] (.step 5 [6] (.step 6 [] (.done)))) (.nil)))))),[])],[],[]⟩,false⟩ <|
 pickB (Nat.beq g 45) ⟨⟨false,[],[],[]⟩,true⟩ <|
 pickB (Nat.beq g 63) ⟨⟨false,[],[],[]⟩,true⟩ <|
 pickB (Nat.beq g 68) ⟨⟨false,[(6,.step 0 [7,6,1] (.step 2 [7,6] (.step 3 [7,6,5,4] (.step 4 [7,6,5] (.fork (.cons 1 (.step 5 [7,6] (.step 6 [7] (.step 7 [] (.done)))) (.cons 5 (.step 1 [7,6] (.step 6 [7] (.step 7 [] (.done)))) (.nil))))))),[])],[],[]⟩,true⟩ <|
 pickB (Nat.beq g 73) ⟨⟨true,[],[],[]⟩,true⟩ <|
 pickB (Nat.beq g 170) ⟨⟨true,[],[],[]⟩,false⟩ <|
 pickB (Nat.beq g 223) ⟨⟨true,[],[],[]⟩,true⟩ <|
 pickB (Nat.beq g 275) ⟨⟨false,[(9,.step 1 [9,8,7] (.step 2 [9,8,7,5,4,3] (.step 3 [9,8,7,5,4] (.step 4 [9,8,7,5] (.step 6 [9,8,7] (.fork (.cons 0 (.step 5 [9,8,7] (.step 7 [9,8] (.step 8 [9] (.step 9 [] (.done))))) (.cons 5 (.step 0 [9,8,7] (.step 7 [9,8] (.step 8 [9] (.step 9 [] (.done))))) (.nil)))))))),[]),(14,.step 0 [8,7,3,2,1] (.step 1 [8,7,3,2] (.step 2 [8,7,3] (.step 3 [8,7] (.step 4 [8,7] (.step 5 [8,7,6] (.step 6 [8,7] (.step 7 [8] (.step 8 [] (.done))))))))),[])],[],[]⟩,true⟩ <|
 pickB (Nat.beq g 276) ⟨⟨false,[(1,.step 0 [9,8,3,2,1] (.step 1 [9,8,3,2] (.step 2 [9,8,3] (.step 3 [9,8] (.step 4 [9,8,7,6,5] (.step 5 [9,8,7,6] (.step 6 [9,8,7] (.step 7 [9,8] (.step 8 [9] (.step 9 [] (.done)))))))))),[8])],[],[]⟩,true⟩ <|
 pickB (Nat.beq g 310) ⟨⟨true,[(7,.step 0 [10,9] (.step 1 [10,9,8,7,2] (.step 2 [10,9,8,7] (.step 3 [10,9,8,7,6,5] (.step 4 [10,9,8,7,6,5] (.step 5 [10,9,8,7,6] (.step 6 [10,9,8,7] (.step 7 [10,9,8] (.step 8 [10,9] (.step 9 [10] (.step 10 [] (.done))))))))))),[])],[],[]⟩,true⟩ <|
 pickB (Nat.beq g 311) ⟨⟨false,[],[],[]⟩,true⟩ <|
 ⟨o0,false⟩
theorem looksB_bw (G:Nat→AV):∀ g x k,(looksB g).o.bw.lookup x=some k→BwOk Tryz.prog G x k:=by
 intro g x k h
 have e:(looksB g).o.bw=[]:=pickB_cases (p:=fun l:Look=>l.o.bw=[]) (fun _=>rfl) (pickB_cases (p:=fun l:Look=>l.o.bw=[]) (fun _=>rfl) (pickB_cases (p:=fun l:Look=>l.o.bw=[]) (fun _=>rfl) (pickB_cases (p:=fun l:Look=>l.o.bw=[]) (fun _=>rfl) (pickB_cases (p:=fun l:Look=>l.o.bw=[]) (fun _=>rfl) (pickB_cases (p:=fun l:Look=>l.o.bw=[]) (fun _=>rfl) (pickB_cases (p:=fun l:Look=>l.o.bw=[]) (fun _=>rfl) (pickB_cases (p:=fun l:Look=>l.o.bw=[]) (fun _=>rfl) (pickB_cases (p:=fun l:Look=>l.o.bw=[]) (fun _=>rfl) (pickB_cases (p:=fun l:Look=>l.o.bw=[]) (fun _=>rfl) (pickB_cases (p:=fun l:Look=>l.o.bw=[]) (fun _=>rfl) (rfl)))))))))))
 rw [e] at h
 cases h
def SB:Nat:=6779255730159384288692455821579571679614919682183433294400835121812341435775514762590952620032
theorem fokB:(List.range 512).all (fun g=>!Nat.testBit SB g||okF looksB g)=true:=by kernel_rfl
noncomputable def FB:Nat→Option Bod:=FF looksB SB
theorem FB_ok:BodOk Tryz.prog GG FB:=FF_ok (looksB_bw GG) fokB (by decide +kernel)
theorem validF:Pure Tryz.prog GG 65 [.agg [.sl 4 [[.str [97],.int .i64 3,.int .i64 1,.int .i64 0]] .none,.sl 0 [] .nil,.sl 0 [] .nil,.sl 0 [] .nil,.sl 1 [[.sl 1 [[.int .i64 0]] .none]] .none]] (.int .i64 0):=Pure.closedA FB_ok (K:=K0) X0_ok 2000 60 (by kernel_rfl)
def KV (g:FuncId):Bool:=Nat.beq g 65
def XV (g:FuncId) (args:List AV):Option AV :=
 pickB (Nat.beq g 65&&leqQ args [.agg [.sl 4 [[.str [97],.int .i64 3,.int .i64 1,.int .i64 0]] .none,.sl 0 [] .nil,.sl 0 [] .nil,.sl 0 [] .nil,.sl 1 [[.sl 1 [[.int .i64 0]] .none]] .none]]) (some (.int .i64 0)) <|
 none
theorem XV_ok:ConX Tryz.prog GG XV:=by
 intro g args r h
 unfold XV at h
 rcases conX_step validF h with h|h
 · exact h
 cases h
theorem keptF:Pure Tryz.prog GG 123 [.agg [.sl 4 [[.str [97],.int .i64 3,.int .i64 1,.int .i64 0]] .none,.sl 0 [] .nil,.sl 0 [] .nil,.sl 0 [] .nil,.sl 1 [[.sl 1 [[.int .i64 0]] .none]] .none]] (.tup [.sl 1 [] .none,.int .i64 0]):=Pure.closedA FB_ok (K:=KV) XV_ok 2000 60 (by kernel_rfl)
def KQ (g:FuncId):Bool:=Nat.beq g 65||Nat.beq g 123
def XQ (g:FuncId) (args:List AV):Option AV :=
 pickB (Nat.beq g 65&&leqQ args [.agg [.sl 4 [[.str [97],.int .i64 3,.int .i64 1,.int .i64 0]] .none,.sl 0 [] .nil,.sl 0 [] .nil,.sl 0 [] .nil,.sl 1 [[.sl 1 [[.int .i64 0]] .none]] .none]]) (some (.int .i64 0)) <|
 pickB (Nat.beq g 123&&leqQ args [.agg [.sl 4 [[.str [97],.int .i64 3,.int .i64 1,.int .i64 0]] .none,.sl 0 [] .nil,.sl 0 [] .nil,.sl 0 [] .nil,.sl 1 [[.sl 1 [[.int .i64 0]] .none]] .none]]) (some (.tup [.sl 1 [] .none,.int .i64 0])) <|
 none
theorem XQ_ok:ConX Tryz.prog GG XQ:=by
 intro g args r h
 unfold XQ at h
 rcases conX_step validF h with h|h
 · exact h
 rcases conX_step keptF h with h|h
 · exact h
 cases h
theorem rulesF:Pure Tryz.prog GG 67 [.agg [.sl 4 [[.str [97],.int .i64 3,.int .i64 1,.int .i64 0]] .none,.sl 0 [] .nil,.sl 0 [] .nil,.sl 0 [] .nil,.sl 1 [[.sl 1 [[.int .i64 0]] .none]] .none]] (.tup [.sl 4 [] .none,.int .i64 0]):=Pure.closedA FA_ok (K:=KQ) XQ_ok 2000 60 (by kernel_rfl)
theorem startF:Pure Tryz.prog GG 63 [.agg [.sl 4 [[.str [97],.int .i64 3,.int .i64 1,.int .i64 0]] .none,.sl 0 [] .nil,.sl 0 [] .nil,.sl 0 [] .nil,.sl 1 [[.sl 1 [[.int .i64 0]] .none]] .none]] (.agg [.sl 1 [[.sl 0 [] .nil]] .none]):=Pure.closedA FA_ok (K:=K0) X0_ok 2000 60 (by kernel_rfl)
end Go.Proofs.YtkodonalmdmgpaaGreatDoor
end
