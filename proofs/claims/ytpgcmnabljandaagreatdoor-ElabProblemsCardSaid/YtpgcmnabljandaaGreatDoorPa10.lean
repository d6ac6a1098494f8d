/- A part of the proof. -/
import Derived.Test.YtpgcmnabljandaaGreatDoorPa09
import Derived.Test.YtpgcmnabljandaaGreatDoorPa08
set_option linter.unusedVariables false
set_option linter.unusedSimpArgs false
set_option maxRecDepth 100000
set_option linter.defProp false
attribute [local simp] Go.Abs.acells Go.Abs.fin Go.Abs.zh Go.Abs.ze Go.Abs.pl1 Go.Abs.plain Go.Abs.pl2 Go.Abs.AV.atom
section
namespace Go.Abs
open Go Go.RowKit
section
variable {P:Program}{G:Nat->AV}{N:Nat}{env:Env}{O:St}{w0:World}{ro0:Nat->Nat->Option Value}{K:Kn}{a:Act}{w:World}
theorem ZL {ro:Option Nat}{n id t:Nat}{ops:Array Oper}{Q:Env->St->Prop}{Q':Exit->Act->World->Prop}(hw:WRel G w0 ro0 K O w)(he:ERel K N env a)(hs:vz N ops=true)
 (hk:∀ o∈ops.toList,o.dst≠some t) (h:vcR P G false ops false false ops.toList env O Q)
 (hn:∀ K' env' O' a' w',K.le K'->WRel G w0 ro0 K' O' w'->ERel K' N env' a'->a'.defers=a.defers->a'.tmps.getD t undef=a.tmps.getD t undef->Q env' O'->Q' .normal a' w') :
 (Code.region id ops false).wpIn (FR ro) n P Q' a w:=by
 refine wpIn_region_list ?_;have:=wK hs (ro:=ro) (n:=n) (more:=[]) ops.toList env O K a w (by simp) h hw he (Q':=Q') fun K' env' O' a' w' h1 h2 h3 h4 h5 h6=>hn K' env' O' a' w' h1 h2 h3 h4 (h5 t hk) h6
 simpa using this
theorem qpz (hw:WRel G w0 ro0 K O w){b i sz:Nat}{rows:List (List AV)}{tok:Tok}{r:List AV}(hb:O.H[b]?=some (.cells [.sl sz rows tok]))(hr:rows[i]?=some r):r.length=sz/\r.all AV.atom=true:=by
 obtain⟨B,_,_,_,⟨cs,el,_,_,_,h⟩,_⟩:=hw.blk b _ hb;obtain⟨v,_,hv⟩:=h 0 (.sl sz rows tok) rfl;simp only[qj]at hv;rcases hv with ⟨_,rfl,_⟩|⟨B',off,cap,_,_,hrows,_⟩
 . simp at hr
 . obtain⟨h1,h2,_⟩:=qW.get B' sz rows off hrows i r hr;exact⟨h1,h2⟩
end
end Go.Abs
namespace Go.Proofs.YtpgcmnabljandaaGreatDoor
open Go Go.Abs
def bwR0 : Array Oper := #[{ dst := some 4, op := Op.load 22 (Operand.tmp 1), type := 22, pos := "iter.go:28", after := #[], guard := none },
 { dst := some 5, op := Op.call { callee := Callee.builtin Builtin.len, args := #[Operand.tmp 4], argTypes := #[22] }, type := 3, pos := "iter.go:28", after := #[{ on := 0, ground := Ground.data }], guard := none },
 { dst := some 6, op := Op.binOp BinOp.sub 3 (Operand.tmp 5) (Operand.const (Value.int IntKind.i64 1)) 3, type := 3, pos := "iter.go:28", after := #[{ on := 1, ground := Ground.data }], guard := none },
 { dst := some 3, op := Op.assign (Operand.tmp 6), type := 3, pos := "iter.go:28", after := #[{ on := 2, ground := Ground.data }, { on := 0, ground := Ground.phase }, { on := 1, ground := Ground.phase }, { on := 2, ground := Ground.phase }], guard := none }]
def bwR1 : Array Oper := #[{ dst := some 7, op := Op.move (Operand.tmp 3), type := 3, pos := "iter.go:28", after := #[], guard := none },
 { dst := some 8, op := Op.binOp BinOp.geq 3 (Operand.tmp 7) (Operand.const (Value.int IntKind.i64 0)) 3, type := 4, pos := "iter.go:28", after := #[{ on := 0, ground := Ground.data }], guard := none }]
def bwO0 : Oper := { dst := some 11, op := Op.move (Operand.tmp 0), type := 230, pos := "iter.go:29", after := #[], guard := none }
def bwM : List Oper := [{ dst := some 12, op := Op.move (Operand.tmp 3), type := 3, pos := "iter.go:29", after := #[], guard := none },
 { dst := some 13, op := Op.load 22 (Operand.tmp 1), type := 22, pos := "iter.go:29", after := #[], guard := none },
 { dst := some 14, op := Op.move (Operand.tmp 3), type := 3, pos := "iter.go:29", after := #[], guard := none },
 { dst := some 15, op := Op.indexAddr 22 (Operand.tmp 13) (Operand.tmp 14), type := 0, pos := "iter.go:29", after := #[{ on := 2, ground := Ground.data }, { on := 3, ground := Ground.data }], guard := none },
 { dst := some 16, op := Op.load 43 (Operand.tmp 15), type := 43, pos := "iter.go:29", after := #[{ on := 4, ground := Ground.data }], guard := none }]
def qoI : Oper := { dst := some 17, op := Op.call { callee := Callee.value (Operand.tmp 11), args := #[Operand.tmp 12, Operand.tmp 16], argTypes := #[3, 43] }, type := 4, pos := "iter.go:29", after := #[{ on := 0, ground := Ground.data }, { on := 1, ground := Ground.data }, { on := 5, ground := Ground.data }], guard := none }
def qoH : Oper := { dst := some 18, op := Op.unOp UnOp.not 4 (Operand.tmp 17), type := 4, pos := "iter.go:29", after := #[{ on := 6, ground := Ground.data }], guard := none }
def qiG:Array Oper:=(bwO0::(bwM++[qoI,qoH])).toArray
def bwR2 : Array Oper := #[{ dst := some 9, op := Op.move (Operand.tmp 3), type := 3, pos := "iter.go:28", after := #[], guard := none },
 { dst := some 10, op := Op.binOp BinOp.sub 3 (Operand.tmp 9) (Operand.const (Value.int IntKind.i64 1)) 3, type := 3, pos := "iter.go:28", after := #[{ on := 0, ground := Ground.data }], guard := none },
 { dst := some 3, op := Op.assign (Operand.tmp 10), type := 3, pos := "iter.go:28", after := #[{ on := 1, ground := Ground.data }, { on := 0, ground := Ground.phase }, { on := 1, ground := Ground.phase }], guard := none }]
def qoJ:Code:=.seq (.region 0 bwR0 false) (.block 0 (.loop (.seq (.seq (.region 1 bwR1 false) (.cond (.tmp 8) .skip (.exit 0))) (.seq (.block 1 (.seq (.region 3 qiG false) (.cond (.tmp 18) .ret .skip))) (.region 2 bwR2 false)))))
theorem bwBody:Tryz.f191.body=some qoJ:=rfl
section
variable {G:Nat->AV}{w0:World}{ro0:Nat->Nat->Option Value}{b L B:Nat}{K:Kn}{O:St}{env:Env}{a:Act}{w:World}{n:Nat}{Q':Exit->Act->World->Prop}
theorem bw0 {sz:Nat}{rows:List (List AV)}{tok:Tok}(h1:env 1=.ptr b 0)(hb:O.H[b]?=some (.cells [.sl sz rows tok]))(hlen:rows.length<2 ^ 62) :
 vcR Zp G false bwR0 false false bwR0.toList env O (fun env' O'=>O'=O/\env' 1=.ptr b 0/\env' 3=.int .i64 ((rows.length:Int)-1)):=by
 simp[bwR0,h1,hb];exact wr (by omega) (by omega)
theorem bw1 {i:Int}(h1:env 1=.ptr b 0)(h3:env 3=.int .i64 i) :
 vcR Zp G false bwR1 false false bwR1.toList env O (fun env' O'=>O'=O/\env' 1=.ptr b 0/\env' 3=.int .i64 i/\env' 8=.bool (decide (0<=i))):=by
 simp[bwR1,h1,h3]
theorem bw2 {i:Nat}(h1:env 1=.ptr b 0)(h3:env 3=.int .i64 i)(hi:i<2 ^ 62) :
 vcR Zp G false bwR2 false false bwR2.toList env O (fun env' O'=>O'=O/\env' 1=.ptr b 0/\env' 3=.int .i64 ((i:Int)-1)):=by
 simp[bwR2,h1,h3];exact wr (by omega) (by omega)
theorem bwm {i:Nat}{rows:List (List AV)}{tok:Tok}{r:List AV}(h1:env 1=.ptr b 0)(h3:env 3=.int .i64 i)(hb:O.H[b]?=some (.cells [.sl 4 rows tok]))(hr:rows[i]?=some r)(hl:r.length=4) :
 vcR Zp G false qiG false false bwM env O (fun env' O'=>O'=O/\env' 1=.ptr b 0/\env' 3=.int .i64 i/\env' 12=.int .i64 i/\env' 16=.agg r):=by
 obtain⟨x0,x1,x2,x3,rfl⟩:∃ x0 x1 x2 x3,r=[x0,x1,x2,x3]:=by
  match r,hl with
  | [x0,x1,x2,x3],_=>exact⟨_,_,_,_,rfl⟩
 simp[bwM,h1,h3,hb,hr]
theorem bw7 {i:Nat}(h1:env 1=.ptr b 0)(h3:env 3=.int .i64 i)(h17:env 17=.bool true) :
 vcR Zp G false qiG false false [qoH] env O (fun env' O'=>O'=O/\env' 1=.ptr b 0/\env' 3=.int .i64 i/\env' 18=.bool false):=by
 simp[qoH,h1,h3,h17]
theorem qqH {S:Nat->St->Prop}{R:Exit->Act->World->Prop}(hround:∀ i O' K' w',S (i+1) O'->K.le K'->WRel G w0 ro0 K' O' w'->∃ rows tok r,O'.H[b]?=some (.cells [.sl 4 rows tok])/\rows[i]?=some r/\∀ v,qj K' (.agg r) v ->
 ∃ f tmps asn body,(Instr.yield L #[.int .i64 i,v]).run Zp w'=.ok (.round L f tmps asn body) w' /\
  RoundIn Fence.wide 0 Zp L f tmps asn body w' (fun e w''=>e=.returned (.bool true)/\∃ K'' O'',K'.le K''/\WRel G w0 ro0 K'' O'' w''/\S i O''))
 (hR:∀ K' O' env' a' w',K.le K'->WRel G w0 ro0 K' O' w'->ERel K' 19 env' a'->a'.defers=[]->S 0 O'->R (.exit 0) a' w')
 (hw:WRel G w0 ro0 K O w) (he:ERel K 19 env a) (hd:a.defers=[]) (ht:a.tmps.getD 0 undef=.func (.yield L) #[] #[]) (h1:env 1=.ptr b 0) {m:Nat} (h3:env 3=.int .i64 ((m:Int)-1)) (hm:m<2 ^ 62) (hS:S m O) :
 Code.wpIn (FR none) 0 Zp (.loop (.seq (.seq (.region 1 bwR1 false) (.cond (.tmp 8) .skip (.exit 0))) (.seq (.block 1 (.seq (.region 3 qiG false) (.cond (.tmp 18) .ret .skip))) (.region 2 bwR2 false)))) R a w:=by
 refine wpIn_loop_ghost (fun n a w=>∃ K' env O,K.le K'/\WRel G w0 ro0 K' O w/\ERel K' 19 env a/\a.defers=[]/\a.tmps.getD 0 undef=.func (.yield L) #[] #[]/\env 1=.ptr b 0/\env 3=.int .i64 ((n:Int)-1)/\n<2 ^ 62/\S n O) m
  ⟨K,env,O,Kn.le_refl K,hw,he,hd,ht,h1,h3,hm,hS⟩ ?_
 clear hw he hd ht h1 h3 hm hS;rintro n a w ⟨K1,env1,O1,hle1,hw1,he1,hd1,ht1,e1,e3,hn,hS⟩;refine wpIn_seq (wpIn_seq (ZL (t:=0) hw1 he1 (by kernel_rfl) (by simp[bwR1]) (bw1 e1 e3) ?_));rintro K2 env2 O2 a2 w2 hle2 hw2 he2 hd2 ht2 ⟨rfl,f1,f3,f8⟩;have hc:=ZD hw2 he2 (.tmp 8);simp only[ev,f8,qj]at hc;refine wpIn_cond_split hc (fun hpos=>wpIn_skip ?_) (fun hneg=>wpIn_exit ?_)
 rotate_left
 . have:n=0:=by simp at hneg;omega
   subst this;exact hR K2 O2 env2 a2 w2 (Kn.le_trans hle1 hle2) hw2 he2 (hd2.trans hd1) hS
 obtain⟨i,rfl⟩:∃ i,n=i+1:=⟨n-1,by simp at hpos;omega⟩;have f3:env2 3=.int .i64 (i:Int):=by rw[f3];congr 1;omega
 have ht2:=ht2.trans ht1;have hd2:=hd2.trans hd1;have hle2:=Kn.le_trans hle1 hle2;obtain⟨rows,tok,r,hb,hr,_⟩:=hround i O2 K2 w2 hS hle2 hw2;have hlr:=(qpz hw2 hb hr).1;refine wpIn_seq (wpIn_block (wpIn_seq (wpIn_region_list ?_)))
 -- the first operation
 show wpListIn (FR none) 0 Zp qiG _ (bwO0::(bwM++[qoI,qoH])) a2 w2;unfold wpListIn;rw[if_pos (show Region.wanted bwO0 (yielded qiG a2.tmps)=true from rfl)];refine⟨fun _ _=>trivial,?_⟩;show wpListIn (FR none) 0 Zp qiG _ (bwM++[qoI,qoH]) (a2.put (some 11) (a2.tmps.getD 0 undef)) w2;have he3:ERel K2 19 (upd env2 (some 11) .any) (a2.put (some 11) (a2.tmps.getD 0 undef)):=he2.put (fun d hd=>by cases hd;decide) (by simp[qj]);have hsz:a2.tmps.size=19:=he2.size;refine wK (ro:=none) (n:=0) (by kernel_rfl) bwM _ O2 K2 _ w2 (by simp[qiG];intro o ho;exact .inr (.inl ho)) (bwm (by simpa using f1) (by simpa using f3) hb hr hlr) hw2 he3 ?_;rintro K4 env4 O4 a4 w4 hle4 hw4 he4 hd4 ht4 ⟨rfl,g1,g3,g12,g16⟩;have t11:=ht4 11 (by simp[bwM]);have t0:=ht4 0 (by simp[bwM]);rw[ht2]at t0 t11;have t11:a4.tmps.getD 11 undef=.func (.yield L) #[] #[]:=by rw[t11];simp[Act.put,hsz]
 have t0:a4.tmps.getD 0 undef=.func (.yield L) #[] #[]:=by rw[t0];simp[Act.put];simpa using ht2
 have v12:=he4.val 12;rw[g12]at v12;simp only[qj]at v12;have v16:=he4.val 16;rw[g16]at v16;obtain⟨rows',tok',r',hb',hr',hyield⟩:=hround i O4 K4 w4 hS (Kn.le_trans hle2 hle4) hw4;have:r'=r:=by
  rw[hb]at hb';cases hb';rw[hr]at hr';cases hr';rfl
 subst this;obtain⟨f,tmps,asn,body,hy,hround'⟩:=hyield _ v16;have hd4:a4.defers=[]:=by rw[hd4,Act.put_defers',hd2]
 unfold wpListIn;rw[if_pos (show Region.wanted qoI (yielded qiG a4.tmps)=true from rfl)];refine⟨fun _ _=>trivial,?_⟩;have hx:(Oper.semAt none a4.eval qoI).run Zp w4=.ok (.round L f tmps asn body) w4:=by
  rw[Oper.semAt_none];have x11:a4.eval (.tmp 11)=.func (.yield L) #[] #[]:=t11;have x12:a4.eval (.tmp 12)=.int .i64 i:=v12;simp[execOp,qoI,resolve,x11,x12,Deferred.ofValue,invoke];exact hy
 show qoI.uponIn (FR none) 0 Zp a4 _ _ ((Oper.semAt none a4.eval qoI).run Zp w4);rw[hx,Oper.uponIn_round];refine⟨fun e=>by simp[Fence.wide]at e,RoundIn.mono (F:=FR none) (show RoundIn (FR none) 0 Zp L f tmps asn body w4 _ from hround') ?_⟩;rintro e w5 ⟨rfl,K5,O5,hle5,hw5,hS5⟩;have he5:ERel K5 19 (upd env4 (some 17) (.bool true)) (a4.put (some 17) (.bool true)):=(he4.mono hle5).put (fun d hd=>by cases hd;decide) (by simp[qj]);show wpListIn (FR none) 0 Zp qiG _ ([qoH]++[]) (a4.put (some 17) (.bool true)) w5;refine wK (ro:=none) (n:=0) (N:=19) (ops:=qiG) (by kernel_rfl) (more:=[]) [qoH] _ O5 K5 _ w5 (by simp[qiG]) (bw7 (i:=i) (by simpa using g1) (by simpa using g3) (by simp)) hw5 he5 ?_;rintro K6 env6 O6 a6 w6 hle6 hw6 he6 hd6 ht6 ⟨rfl,k1,k3,k18⟩;have t0':=ht6 0 (by simp[qoH]);have t0':a6.tmps.getD 0 undef=.func (.yield L) #[] #[]:=by
  rw[t0',<- t0];simp[Act.put]
 have hd6:a6.defers=[]:=by rw[hd6,Act.put_defers',hd4]
 have hc6:=ZD hw6 he6 (.tmp 18);simp only[ev,k18,qj]at hc6;refine wpIn_cond_false hc6 (wpIn_skip ?_);refine ZL (t:=0) hw6 he6 (by kernel_rfl) (by simp[bwR2]) (bw2 k1 k3 (by omega)) ?_;rintro K7 env7 O7 a7 w7 hle7 hw7 he7 hd7 ht7 ⟨rfl,l1,l3⟩;exact⟨i,Nat.lt_succ_self i,K7,env7,O7,Kn.le_trans hle2 (Kn.le_trans hle4 (Kn.le_trans hle5 (Kn.le_trans hle6 hle7))),hw7,he7,hd7.trans hd6,ht7.trans t0',l1,l3,by omega,hS5⟩
theorem qlp:bodied Zp 191=true:=by
 simp[bodied,Tryz.func191,Tryz.f191]
end
end Go.Proofs.YtpgcmnabljandaaGreatDoor
end
section
namespace Go.Proofs.YtpgcmnabljandaaGreatDoor
open Go Go.Abs
theorem qh7 (x y:Value)(z:Array Value):(#[x,y]++z).getD 0 undef=x:=by simp[qs0,Array.getElem?_append]
theorem bw191 (G:Nat->AV):BwOk Zp G 191 4:=by
 refine⟨qlp,?_⟩;intro w0 ro0 b L B K O w sz rows tok S hw hB hb hlen hS hround;refine callsIn_of_wp (F:=FR none) (n:=0) Tryz.func191 bwBody trivial ?_;have hvs:qk K [.any,.ptr b 0] (#[.func (.yield L) #[] #[],.pointer (some ⟨B,0,none⟩)]:Array Value).toList:=by
  simp only[qk,qj];exact⟨_,_,rfl,trivial,_,_,rfl,⟨B,hB,rfl⟩,rfl⟩
 have he:=ERel.enter (n:=19) hvs (by simp);have ht:((#[.func (.yield L) #[] #[],.pointer (some ⟨B,0,none⟩)]++Array.replicate (19-(#[.func (.yield L) #[] #[],.pointer (some ⟨B,0,none⟩)]:Array Value).size) undef):Array Value).getD 0 undef=.func (.yield L) #[] #[]:=qh7 _ _ _;rw[Tryz.ntmps191];unfold qoJ;have hs0:vz 19 bwR0=true:=by kernel_rfl
 refine wpIn_seq (ZL (t:=0) hw he hs0 (by simp[bwR0]) (bw0 (by simp[JI]) hb hlen) ?_);rintro K1 env1 O1 a1 w1 hle1 hw1 he1 hd1 ht1 ⟨rfl,e1,e3⟩;refine wpIn_block (qqH (S:=S) (fun i O' K' w' hs hle=>hround i O' K' w' hs (Kn.le_trans hle1 hle)) ?_ hw1 he1 hd1 (ht1.trans ht) e1 e3 hlen hS);intro K' O' env' a' w' hle' hw' he' hd' hs';have hres:(results Tryz.f191 a'.tmps).run Zp w'=.ok (.tuple #[]) w':=by
  simp[results,Tryz.results191]
 simp only[Exit.inBlock,↓reduceIte];refine bodyPost_end hres hd' ?_;exact⟨⟨_,rfl⟩,K',O',Kn.le_trans hle1 hle',hw',hs'⟩
end Go.Proofs.YtpgcmnabljandaaGreatDoor
end
