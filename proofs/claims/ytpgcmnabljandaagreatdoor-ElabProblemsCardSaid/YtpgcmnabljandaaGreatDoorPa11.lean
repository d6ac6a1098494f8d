/- A part of the proof. -/
import Derived.Test.YtpgcmnabljandaaGreatDoorPa09
set_option linter.unusedVariables false
set_option linter.unusedSimpArgs false
set_option linter.defProp false
attribute [local simp] Go.Abs.acells Go.Abs.fin Go.Abs.zh Go.Abs.ze Go.Abs.pl1 Go.Abs.plain Go.Abs.pl2 Go.Abs.AV.atom
section
namespace Go.Proofs.YtpgcmnabljandaaGreatDoor
open Go Go.Abs
def qd6:List Str:=[[99,108,97,115,115],[101,120,116,101,110,100,115],[114,97,110,100],[114,97,110,100,99],[115,116,97,116,101],[99,111,110,115,116,114,97,105,110,116],[115,111,102,116],[100,105,115,116],[105,102],[101,108,115,101],[101,97,99,104],[105,110],[115,111,108,118,101],[98,101,102,111,114,101],[105,110,115,105,100,101],[112,114,111,112,101,114,116,121],[115,101,113],[97,110,100],[111,114],[110,111,116],[115,101,116],[104,111,108,100],[112,108,97,105,110],[114,101,112,101,97,116]]
def vp (n:Int):Bool:=decide (97<=n)&&decide (n<=122)
def YF (n:Int):Bool:=decide (48<=n)&&decide (n<=57)
def wR (n:Int):Bool:=vp n||YF n||(decide (65<=n)&&decide (n<=90))||decide (n=95)
def JA (c:UInt8):Bool:=wR c.toNat
def Qx:Str->Bool
 | []=>false
 | c::r=>vp c.toNat&&(c::r).all JA
def qO (s:Str):Bool:=Qx s&&decide (s.length<=16)&&!qd6.contains s
theorem qeS {s:Str}(h:qO s=true):∀ c∈s,JA c=true:=by
 simp only[qO,qq1]at h;obtain⟨⟨h,_⟩,_⟩:=h
 cases s with
 | nil=>simp
 | cons c r=>
  simp only[Qx,qq1]at h;exact fun x hx=>qq7.1 h.2 x hx
theorem kE {s:Str}(h:qO s=true):∀ c∈s,c≠91:=by
 intro c hc e;have:=qeS h c hc;subst e
 revert this
 decide
theorem qa3 {s:Str}(h:qO s=true):s≠[]:=by
 rintro rfl;simp[qO,Qx]at h
def qH (a:Str)(i:Nat):Str:=a++[91,UInt8.ofNat (48+i),93]
@[simp]theorem qdA {a:Str}{i:Nat}:(qH a i).length=a.length+3:=by simp[qH]
theorem QV {a b:Str}{i j:Nat}(hi:i<8)(hj:j<8)(h:qH a i=qH b j):a=b/\i=j:=by
 obtain⟨h1,h2⟩:=qtN h rfl;refine⟨h1,?_⟩;simp only[List.cons.injEq,true_and,and_true]at h2;have:=congrArg UInt8.toNat h2;simp only[UInt8.toNat_ofNat']at this;omega
def jr (s a:Str)(i:Nat):Prop:=i<8/\qO a=true/\s=qH a i
theorem jr.unique {s a b:Str}{i j:Nat}(h:jr s a i)(h':jr s b j):a=b/\i=j:=QV h.1 h'.1 (h.2.2.symm.trans h'.2.2)
open Classical in
noncomputable def yb (s:Str):Option (Str×Nat):=if h:∃ p:Str×Nat,jr s p.1 p.2 then some h.choose else none
theorem wH {s a:Str}{i:Nat}(h:jr s a i):yb s=some (a,i):=by
 have hex:∃ p:Str×Nat,jr s p.1 p.2:=⟨(a,i),h⟩;unfold yb;rw[dif_pos hex];obtain⟨h1,h2⟩:=hex.choose_spec.unique h;rw[<- h1,<- h2]
theorem jI {s a:Str}{i:Nat}:yb s=some (a,i)↔jr s a i:=by
 constructor
 . intro h;unfold yb at h;split at h
   . rename_i hex;have:=hex.choose_spec;rw[Option.some.inj h]at this;exact this
   . cases h
 . exact wH
theorem yZ {s:Str}:yb s=none↔∀ a i,¬ jr s a i:=by
 constructor
 . intro h a i hi;rw[wH hi]at h;cases h
 . intro h
   cases e:yb s with
   | none=>rfl
   | some p=>exact absurd (jI.1 (show yb s=some (p.1,p.2) from e)) (h _ _)
noncomputable def js (s:Str):Bool:=qO s||(yb s).isSome
def ya (s:Str):Str:=s.takeWhile (· != 91)
def Ks (s:Str):Str:=(s.dropWhile (· != 91)).tail
theorem qoF {s:Str}(h:s.contains 91=true):s=ya s++91::Ks s:=by
 unfold ya Ks
 induction s with
 | nil=>simp at h
 | cons c r ih=>
  by_cases hc:c=91
  . subst hc;simp
  . have:r.contains 91=true:=by
     simp only[List.contains_cons,qrV,beq_iff_eq]at h;rcases h with h|h
     . exact absurd h.symm hc
     . exact h
    have hb:(c != 91)=true:=(by simpa using hc);rw[qtr,List.dropWhile_cons,if_pos hb,if_pos hb,qrd,<- ih this]
theorem qh5 {a:Str}{t:Str}(h:∀ c∈a,c≠91):ya (a++91::t)=a:=by
 unfold ya
 induction a with
 | nil=>simp
 | cons c r ih=>
  have hb:(c != 91)=true:=by simpa using h c (by simp)
  rw[qrd,qtr,if_pos hb,ih fun x hx=>h x (by simp[hx])]
theorem qhp {a:Str}{t:Str}(h:∀ c∈a,c≠91):Ks (a++91::t)=t:=by
 unfold Ks
 induction a with
 | nil=>simp
 | cons c r ih=>
  have hb:(c != 91)=true:=by simpa using h c (by simp)
  rw[qrd,List.dropWhile_cons,if_pos hb,ih fun x hx=>h x (by simp[hx])]
theorem qnM {a:Str}{i:Nat}:(qH a i).contains 91=true:=by simp[qH]
theorem jr.has {s a:Str}{i:Nat}(h:jr s a i):s.contains 91=true/\ya s=a/\Ks s=[UInt8.ofNat (48+i),93]:=by
 obtain⟨h1,h2,rfl⟩:=h;exact⟨qnM,qh5 (kE h2),qhp (kE h2)⟩
theorem ZP {s:Str}(h:s.contains 91=false):yb s=none:=by
 rw[yZ];intro a i hi;rw[hi.has.1]at h;cases h
def qh {α:Type}(f:α->Int):List α->Int
 | []=>0
 | a::r=>if f a=0 then qh f r else f a
theorem qT {α:Type}{f:α->Int}:∀ {l m:List α},qh f (l++m)=if qh f l=0 then qh f m else qh f l
 | [],m=>by simp[qh]
 | a::r,m=>by
  simp only[qrd,qh];split
  . exact qT
  . rename_i h;simp
theorem qr {α:Type}{f:α->Int}:∀ {l:List α},qh f l=0↔∀ a∈l,f a=0
 | []=>by simp[qh]
 | a::r=>by
  simp only[qh,qra,forall_eq_or_imp];split
  . rename_i h;simp[h,qr]
  . rename_i h;simp[h]
noncomputable def kv (v:Var):Int :=
 if js v.name=false then 7
 else if v.width<1\/8<v.width\/v.mode<0\/2<v.mode\/v.value<0\/(2:Int) ^ v.width.toNat<=v.value\/(v.mode≠0/\v.value≠0) then 1
 else 0
def vZ (l:List Var)(name:Str):Bool:=l.any fun v=>v.name==name
def ZV (l:List Var)(i:Nat):Bool:=match l[i]? with
 | some v=>vZ (l.take i) v.name
 | none=>false
def dupS (l:List Var):Bool:=(List.range l.length).any (ZV l)
open Classical in
noncomputable def J9 (l:List Var)(name:Str):Bool:=match yb name with
 | some (a,i+1)=>!vZ l (qH a i)
 | _=>false
def wv:List Var->Int
 | []=>0
 | v::r=>(if v.mode≠0 then v.width else 0)+wv r
noncomputable def jB (l:List Var):Int :=
 if 16<l.length then 2
 else if qh kv l≠0 then qh kv l
 else if dupS l=true then 8
 else if l.any (fun v=>J9 l v.name)=true then 10
 else if 20<wv l then 2
 else 0
mutual
theorem Ex.ind {p:Ex->Prop}(h:∀ e,(∀ a∈e.args,p a)->p e):∀ e,p e
 | .mk o n s a=>h _ (by simpa using Ex.indL h a)
theorem Ex.indL {p:Ex->Prop}(h:∀ e,(∀ a∈e.args,p a)->p e):∀ (l:List Ex),∀ a∈l,p a
 | [],_,hm=>by cases hm
 | e::r,a,hm=>by
  rcases qra.1 hm with hm|hm
  . rw[hm];exact Ex.ind h e
  . exact Ex.indL h r a hm
end
mutual
def pre:Ex->List Ex
 | .mk o n s a=>.mk o n s a::ki a
def ki:List Ex->List Ex
 | []=>[]
 | e::r=>pre e++ki r
end
theorem zb (e:Ex):pre e=e::ki e.args:=by cases e;simp[pre]
@[simp]theorem qaS:ki []=[]:=by simp[ki]
@[simp]theorem jF {e:Ex}{r:List Ex}:ki (e::r)=pre e++ki r:=by simp[ki]
theorem yO:∀ {l m:List Ex},ki (l++m)=ki l++ki m
 | [],m=>by simp
 | e::r,m=>by simp[yO (l:=r),qri]
mutual
def hgt:Ex->Nat
 | .mk _ _ _ a=>Z4 a+1
def Z4:List Ex->Nat
 | []=>0
 | e::r=>max (hgt e) (Z4 r)
end
theorem jo (e:Ex):hgt e=Z4 e.args+1:=by cases e;simp[hgt]
@[simp]theorem qgA:Z4 []=0:=by simp[Z4]
@[simp]theorem we {e:Ex}{r:List Ex}:Z4 (e::r)=max (hgt e) (Z4 r):=by simp[Z4]
theorem qgB {l:List Ex}{e:Ex}(h:e∈l):hgt e<=Z4 l:=by
 induction l with
 | nil=>cases h
 | cons a r ih=>
  rcases qra.1 h with rfl|h
  . simp;omega
  . have:=ih h;simp;omega
theorem qkz {e a:Ex}(h:a∈e.args):hgt a<hgt e:=by
 have:=qgB h;rw[jo e];omega
def Wee (e:Ex):Prop:=∀ x∈pre e,Fits x.args
theorem Wee.fits {e:Ex}(h:Wee e):Fits e.args:=h e (by rw[zb];simp)
theorem jz {l:List Ex}{x:Ex}:x∈ki l↔∃ a∈l,x∈pre a:=by
 induction l with
 | nil=>simp
 | cons e r ih=>simp[ih]
theorem Wee.arg {e a:Ex}(h:Wee e)(ha:a∈e.args):Wee a:=fun x hx=>h x (by rw[zb];exact qrk _ (jz.2 ⟨a,ha,hx⟩))
def zN (op:Int):Int :=
 if op=1\/op=2\/op=24 then 0
 else if op=3\/op=4\/op=5\/op=6\/op=25 then 1
 else if op=22 then 3
 else if op=23 then -1
 else if op<1\/25<op then -1
 else 2
def qm (e:Ex):Bool :=
 if e.op=23 then decide (e.args.length % 2=1/\3<=e.args.length/\e.args.length<=33)
 else decide ((e.args.length:Int)=zN e.op)
noncomputable def qw (e:Ex):Int :=
 if e.op<1\/25<e.op then 1
 else if (e.op=1/\(e.n<0\/65535<e.n))\/(e.op≠1/\e.n≠0) then 1
 else if (¬ (e.op=2\/e.op=3\/e.op=24)/\e.name≠[])\/qm e=false then 1
 else if (e.op=2/\js e.name=false)\/((e.op=3\/e.op=24)/\qO e.name=false) then 7
 else 0
def qaH (e:Ex):Int:=IntKind.i64.wrap (pre e).length
noncomputable def qM (e:Ex):Int :=
 if qh qw (pre e)=0/\(24<hgt e\/400<qaH e) then 2 else qh qw (pre e)
def Vo (ops:List Int)(out:List Str)(e:Ex):List Str:=if ops.contains e.op&&!out.contains e.name then out++[e.name] else out
def yH (ops:List Int)(e:Ex):List Str:=(pre e).foldl (Vo ops) []
theorem qn9 {ops:List Int}{out:List Str}{e:Ex}{s:Str}:s∈Vo ops out e↔s∈out\/(ops.contains e.op=true/\s=e.name):=by
 unfold Vo;by_cases h1:e.op∈ops
 . by_cases h2:e.name∈out
   . simp only[qrZ.2 h1,qrZ.2 h2,qt5,qsO,qrq,if_false,true_and];constructor
     . exact .inl
     . rintro (h|rfl)
       . exact h
       . exact h2
   . simp[h1,h2]
 . simp[h1]
theorem qde {ops:List Int}{s:Str}:∀ {l:List Ex} {out:List Str},s∈l.foldl (Vo ops) out↔s∈out\/∃ e∈l,ops.contains e.op=true/\s=e.name
 | [],out=>by simp
 | e::r,out=>by
  rw[qrP,qde,qn9];simp only[qra,exists_eq_or_imp];constructor
  . rintro ((h|h)|h)
    . exact .inl h
    . exact .inr (.inl h)
    . exact .inr (.inr h)
  . rintro (h|h|h)
    . exact .inl (.inl h)
    . exact .inl (.inr h)
    . exact .inr h
theorem yw {ops:List Int}{e:Ex}{s:Str}:s∈yH ops e↔∃ x∈pre e,ops.contains x.op=true/\s=x.name:=by
 unfold yH;rw[qde];simp
def qdU (e:Ex):Bool:=(pre e).any fun x=>decide (x.op=3\/x.op=24)
def Vc (l:List Var)(e:Ex):Bool:=(pre e).any fun x=>decide (x.op=2)&&!vZ l x.name
theorem qiz {e:Ex}:decide (0<(yH [3,24] e).length)=qdU e:=by
 rw[qr5,decide_eq_true_iff,List.length_pos_iff_exists_mem,qdU,qq2];constructor
 . rintro⟨s,hs⟩;obtain⟨x,h1,h2,_⟩:=yw.1 hs;exact⟨x,h1,by simpa using h2⟩
 . rintro⟨x,h1,h2⟩;exact⟨x.name,yw.2 ⟨x,h1,by simpa using h2,rfl⟩⟩
theorem qid {l:List Var}{e:Ex}:(yH [2] e).any (fun s=>!vZ l s)=Vc l e:=by
 rw[qr5,Vc,qq2,qq2];constructor
 . rintro⟨s,hs,h⟩;obtain⟨x,h1,h2,rfl⟩:=yw.1 hs;exact⟨x,h1,by simp only[qq1,decide_eq_true_eq];exact⟨by simpa using h2,h⟩⟩
 . rintro⟨x,h1,h2⟩;simp only[qq1,decide_eq_true_eq]at h2;exact⟨x.name,yw.2 ⟨x,h1,by simpa using h2.1,rfl⟩,h2.2⟩
noncomputable def yx (l:List Var)(e:Ex):Int :=
 if qM e≠0 then qM e else if qdU e=true then 9 else if Vc l e=true then 7 else 0
def zW (l:List Var)(i:Int):Bool:=decide (0<=i)&&(l[i.toNat]?).any fun v=>v.mode != 0
def zo (w:Weight):Bool:=decide (w.lo<0)||decide (w.hi<w.lo)||decide (65535<w.hi)||decide (w.weight<0)||decide (1000<w.weight)
def yr (l:List Var)(d:List Dist)(i:Nat):Int:=match d[i]? with
 | some x=>if zW l x.var=false then 1 else if (d.take i).any (fun y=>y.var==x.var)=true then 8 else if 16<x.weights.length then 2 else if x.weights.any zo=true then 1 else 0
 | none=>0
def wg (l:List Var)(d:List Dist):Int:=qh (yr l d) (List.range d.length)
def yz (l:List Var)(g:List (List Int)):Prop:=(∀ x∈g,x≠[])/\(∀ i∈g.flatten,zW l i=true)/\g.flatten.Nodup/\∀ i:Nat,i<l.length->zW l i=true->(i:Int)∈g.flatten
open Classical in
noncomputable def zU (l:List Var)(g:List (List Int)):Int:=if yz l g then 0 else 1
noncomputable def zT (p:Problem):Int :=
 if jB p.vars≠0 then jB p.vars
 else if qh (yx p.vars) (p.hard++p.soft)≠0 then qh (yx p.vars) (p.hard++p.soft)
 else if wg p.vars p.dists≠0 then wg p.vars p.dists
 else zU p.vars p.groups
def qat (l:List Var)(i:Nat):Int:=match l[i]? with
 | some v=>v.width
 | none=>0
end Go.Proofs.YtpgcmnabljandaaGreatDoor
end
section
namespace Go.Abs
open Go Go.RowKit
def qlH (P:Program)(rs:List ResultVar)(Q:AV->St->Prop)(env:Env)(O:St):Prop :=
 match qf7 (Dof P) rs env O with
 | some l=>Q (Vx l) O
 | none=>False
def qd1 (P:Program)(rs:List ResultVar)(Q:AV->St->Prop):Exit->Env->St->Prop
 | .ret,env,O=>qlH P rs Q env O
 | .normal,env,O=>qlH P rs Q env O
 | _,_,_=>False
attribute [simp] qlH qd1
section
variable {P:Program}{G:Nat->AV}{O:St}{f:FuncId}{args:List AV}{Q:AV->St->Prop}
theorem qq.vcO {fn : Func} {c : Code} (o : Opts) (hm : P.follows .mixedOrders = true) (hf : P.funcs[f]? = some fn) (hb : fn.body = some c) (hk : (j8 fn.ntmps o c && decide (args.length ≤ fn.ntmps) && fn.name != "runtime.NumGoroutine") = true)
 (h:vcC P G o c (JI args) O (qd1 P fn.results.toList Q)):qq P G f args O Q:=by
 simp only[qq1,decide_eq_true_eq,bne_iff_ne,ne_eq]at hk;refine qq.of_body hf hb hk.2 hk.1.2 (AWp.mono (kU hm c hk.1.1 h) fun e env O hq=>?_);have key:qlH P fn.results.toList Q env O->∃ l,qf7 (Dof P) fn.results.toList env O=some l/\Q (Vx l) O:=fun h=>by
  unfold qlH at h;split at h
  . rename_i l hl;exact⟨l,hl,h⟩
  . exact h.elim
 cases e with
 | ret=>exact⟨.inl rfl,key hq⟩
 | normal=>exact⟨.inr rfl,key hq⟩
 | _=>exact hq.elim
theorem qq.vc {fn : Func} {c : Code} (hm : P.follows .mixedOrders = true) (hf : P.funcs[f]? = some fn) (hb : fn.body = some c) (hk : (j8 fn.ntmps o0 c && decide (args.length ≤ fn.ntmps) && fn.name != "runtime.NumGoroutine") = true)
 (h:vcC P G o0 c (JI args) O (qd1 P fn.results.toList Q)):qq P G f args O Q:=qq.vcO o0 hm hf hb hk h
end
end Go.Abs
namespace Go.Proofs.YtpgcmnabljandaaGreatDoor
open Go Go.Abs
def Jk {S:Type}(stp:S->Ex->S×Bool):S->List Ex->S×Bool
 | s,[]=>(s,true)
 | s,e::r=>if (stp s e).2=true then Jk stp (stp s e).1 r else ((stp s e).1,false)
theorem KI {S:Type}{stp:S->Ex->S×Bool}:∀ {s:S} {l m:List Ex},Jk stp s (l++m)=if (Jk stp s l).2=true then Jk stp (Jk stp s l).1 m else Jk stp s l
 | s,[],m=>by simp[Jk]
 | s,e::r,m=>by
  simp only[qrd,Jk];split
  . exact KI
  . simp
theorem KH {S:Type}{stp:S->Ex->S×Bool}(h:∀ s e,(stp s e).2=true):∀ (s:S) (l:List Ex),Jk stp s l=(l.foldl (fun s e=>(stp s e).1) s,true)
 | s,[]=>rfl
 | s,e::r=>by simp only[Jk,h,if_true,qrP];exact KH h _ r
theorem VE {f:Ex->Int}:∀ (s:Int) (l:List Ex),(Jk (fun _ e=>(f e,f e==0)) s l).1=if l=[] then s else qh f l
 | s,[]=>rfl
 | s,e::r=>by
  simp only[Jk,qh,beq_iff_eq,reduceCtorEq,if_false];by_cases h:f e=0
  . rw[if_pos h,if_pos h,VE];split
    . rename_i hr;subst hr;simp[qh,h]
    . rfl
  . rw[if_neg h,if_neg h]
theorem qfK {m n:Int}:IntKind.i64.wrap (IntKind.i64.wrap m+n)=IntKind.i64.wrap (m+n):=by
 simp[IntKind.wrap,IntKind.bits,IntKind.signed];omega
theorem V5 {n:Int}:∀ (l:List Ex),l.foldl (fun s _=>IntKind.i64.wrap (s+1)) (IntKind.i64.wrap n)=IntKind.i64.wrap (n+l.length)
 | []=>by simp
 | e::r=>by
  rw[qrP,qfK,V5 r];congr 1;simp;omega
theorem vu {l:List Var}{g:List (List Int)}(h : []∈g):¬ yz l g:=fun ⟨h1,_⟩=>h1 _ h rfl
theorem V4 {l:List Var}{g:List (List Int)}{i:Int}(h:i∈g.flatten)(hr:zW l i=false):¬ yz l g:=fun ⟨_,h2,_⟩=>by
 have:=h2 i h;rw[hr]at this;cases this
theorem qh6 {l:List Var}{g:List (List Int)}{i:Int}{done rest:List Int}(h:g.flatten=done++i::rest)(hi:i∈done):¬ yz l g:=fun ⟨_,_,h3,_⟩=>by
 rw[h,qsc]at h3;exact h3.2.2 i hi i (by simp) rfl
theorem qe3 {l:List Var}{g:List (List Int)}{i:Nat}(hi:i<l.length)(hr:zW l i=true)(h:(i:Int)∉g.flatten):¬ yz l g:=fun ⟨_,_,_,h4⟩=>h (h4 i hi hr)
theorem J0 {l:List Var}{i:Int}(h:zW l i=true):0<=i/\i<l.length:=by
 simp only[zW,qq1,decide_eq_true_eq]at h;obtain⟨h0,h1⟩:=h;refine⟨h0,?_⟩;apply Classical.byContradiction;intro hn;rw[qry (by omega)]at h1;simp at h1
theorem qc5 {l:List Var}{g:List (List Int)}(h1:∀ x∈g,x≠[])(h2:∀ i∈g.flatten,0<=i/\i<(l.length:Int)) :
 yz l g↔∀ i:Nat,i<l.length->g.flatten.count (i:Int)=if zW l i=true then 1 else 0:=by
 constructor
 . rintro⟨_,k2,k3,k4⟩ i hi;split
   . rename_i hr;have:=List.nodup_iff_count.1 k3 (i:Int);have:=qtu.2 (k4 i hi hr);omega
   . rename_i hr;apply List.count_eq_zero.2;intro hm;exact hr (k2 _ hm)
 . intro h;have cnt:∀ i∈g.flatten,g.flatten.count i=1/\zW l i=true:=by
    intro i hi;obtain⟨a,b⟩:=h2 i hi;have hc:=h i.toNat (by omega);have e:((i.toNat:Nat):Int)=i:=(by omega);rw[e]at hc;have:=qtu.2 hi;split at hc
    . rename_i hr;exact⟨hc,hr⟩
    . omega
   refine⟨h1,fun i hi=>(cnt i hi).2,?_,?_⟩
   . rw[List.nodup_iff_count];intro i;by_cases hi:i∈g.flatten
     . rw[(cnt i hi).1];exact qrn _
     . rw[List.count_eq_zero.2 hi];omega
   . intro i hi hr;have hc:=h i hi;rw[if_pos hr]at hc;exact qtu.1 (by omega)
end Go.Proofs.YtpgcmnabljandaaGreatDoor
namespace Go.Proofs.YtpgcmnabljandaaGreatDoor
open Go Go.Abs
mutual
def kj:Ex->Int->Int
 | .mk _ _ _ a,d=>vm a d 1
def vm:List Ex->Int->Int->Int
 | [],_,n=>n
 | x::r,d,n=>if n<100/\d<30 then vm r d (IntKind.i64.wrap (n+kj x (IntKind.i64.wrap (d+1)))) else n
end
theorem qcE (e:Ex)(d:Int):kj e d=vm e.args d 1:=by cases e;simp[kj]
@[simp]theorem qhS {d n:Int}:vm [] d n=n:=by simp[vm]
@[simp]theorem KU {x:Ex}{r:List Ex}{d n:Int}:vm (x::r) d n=if n<100/\d<30 then vm r d (IntKind.i64.wrap (n+kj x (IntKind.i64.wrap (d+1)))) else n:=by simp[vm]
mutual
def yu:Ex->Nat->Bool
 | .mk o n s a,d=>if 25<d\/(d=0/\60<kj (.mk o n s a) 0) then false else JL a (d+1)
def JL:List Ex->Nat->Bool
 | [],_=>true
 | x::r,d=>yu x d&&JL r d
end
theorem WX (e:Ex)(d:Nat):yu e d=if 25<d\/(d=0/\60<kj e 0) then false else JL e.args (d+1):=by cases e;simp[yu]
@[simp]theorem briefL_nil {d:Nat}:JL [] d=true:=by simp[JL]
@[simp]theorem qqJ {x:Ex}{r:List Ex}{d:Nat}:JL (x::r) d=(yu x d&&JL r d):=by simp[JL]
theorem Yk {l:List Ex}{d:Nat}:JL l d=l.all fun x=>yu x d:=by
 induction l with
 | nil=>simp
 | cons x r ih=>simp[ih]
theorem qlm:∀ (e:Ex) (d:Nat),yu e d=true->hgt e+d<=26:=by
 refine Ex.ind fun e ih d h=>?_
 rw[WX]at h;split at h
 . cases h
 . rename_i hd;rw[jo];have:∀ (l:List Ex),(∀ x∈l,yu x (d+1)=true)->(∀ x∈l,x∈e.args)->Z4 l+(d+1)<=26:=by
    intro l
    induction l with
    | nil=>intro _ _;simp;omega
    | cons x r ihl=>
     intro h1 h2;have a1:=ih x (h2 x (by simp)) (d+1) (h1 x (by simp));have a2:=ihl (fun y hy=>h1 y (by simp[hy])) (fun y hy=>h2 y (by simp[hy]));simp;omega
   rw[Yk,qq7]at h;have:=this e.args h (fun _ h=>h);omega
end Go.Proofs.YtpgcmnabljandaaGreatDoor
end
