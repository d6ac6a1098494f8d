import Derived.Test.YtfmdnopgncbmoaaGreatDoorPs02
import Derived.Deep.AppendSrc
import Derived.Lib.AppendZerosOnto
set_option linter.all false
set_option linter.defProp false
namespace Go.Abs
open Go Go.RowKit
def qlC:AV->AV->Option (List Bool)
 |.sl _ (_::_) _,.sl _ [] .nil=>some [false]
 |.sl _ [] .nil,.sl _ [] .nil=>some [true]
 |.sl _ [] _,.sl _ [] .nil=>some [true,false]
 |.ms ..,.sl _ [] .nil=>some [false]
 |.nilp,.nilp=>some [true]
 |.ptr ..,.nilp=>some [false]
 |.rptr _,.nilp=>some [false]
 |.nilm,.nilm=>some [true]
 |.map _,.nilm=>some [false]
 |.nilf,.nilf=>some [true]
 |.fn ..,.nilf=>some [false]
 |_,_=>none
def TD.isSl:TD->Bool|.sl _=>true|_=>false
def TD.isPtr:TD->Bool|.ptr _=>true|_=>false
def TD.isMap:TD->Bool|.map .. =>true|_=>false
def TD.isFn:TD->Bool|.fn=>true|_=>false
def TD.isSl_spec{d:TD}(h:d.isSl=true):∃e,d=.sl e:=by cases d<;>simp[TD.isSl]at h;exact⟨_,rfl⟩
def TD.isPtr_spec{d:TD}(h:d.isPtr=true):∃e,d=.ptr e:=by cases d<;>simp[TD.isPtr]at h;exact⟨_,rfl⟩
def TD.isMap_spec{d:TD}(h:d.isMap=true):∃k e,d=.map k e:=by cases d<;>simp[TD.isMap]at h;exact⟨_,_,rfl⟩
def TD.isFn_spec{d:TD}(h:d.isFn=true):d=.fn:=by cases d<;>simp[TD.isFn]at h;rfl
def ZB(d:TD):AV->Bool
 |.sl .. =>d.isSl
 |.ms .. =>d.isSl
 |.nilp=>d.isPtr
 |.ptr .. =>d.isPtr
 |.rptr _=>d.isPtr
 |.nilm=>d.isMap
 |.map _=>d.isMap
 |.nilf=>d.isFn
 |.fn .. =>d.isFn
 |_=>false
def Wn(D:Nat->Option TI)(neg:Bool)(t:Nat)(x y:AV)(U:St):Option (List (AV×St)) :=
 match qlC x y with
 |some l=>if ZB (qP D t) x then some (l.map fun b=>(.bool (b != neg),U)) else none
 |none=>none
def KA(U:St)(j:TI)(x:AV):Option (Nat×List AV) :=
 match x with
 |.sl sz rows _=>if sz=j.size\/rows=[] then some (rows.length,rows.flatten) else none
 | .ms b off len sz=>if sz=j.size then(match U.H[b]? with
  |some (.cells c)=>(cut c off (len*sz)).map fun s=>(len,s)
  |_=>none) else none
 |_=>none
def zZ(D:Nat->Option TI)(U:St)(t u:Nat)(s x:AV):Option (AV×St) :=
 match D t with
 | some i=>match i.d with
  | .sl e=>match D e with
   | some j=>
    if 0<j.size/\j.zero.length=j.size/\j.bytes<=256 then
     match qP D u with
     | .int _=>match s,x with
      |.sl _ [] .nil,.int _ n=>if 0<n/\n<=549755813888/\j.zero.all AV.atom=true then some (.ms U.H.length 0 n.toNat j.size,U.push (.cells (List.replicate n.toNat j.zero).flatten)) else none
      |_,_=>none
     | .sl _=>match KA U j x with
      | some (n,src)=>
       if n=0 then none else
       match s with
       | .sl sz rows tok=>match tok with
        |.nil=>if rows.length+n<=549755813888 then some (.ms U.H.length 0 (rows.length+n) j.size,U.push (.cells (rows.flatten++src))) else none
        |.tight=>if(sz=j.size\/rows=[])/\rows.length+n<=549755813888 then some (.ms U.H.length 0 (rows.length+n) j.size,U.push (.cells (rows.flatten++src))) else none
        |_=>none
       | .ms b off len sz=>match U.H[b]? with
        | some (.cells c)=>if sz=j.size/\off=0/\len+n<=549755813888/\len*sz<=c.length then
         some (.ms U.H.length 0 (len+n) sz,{U with H:=U.H.set b .dead++[.cells (c.take (len*sz)++src)]})
         else none
        |_=>none
       |_=>none
      |none=>none
     |_=>none
    else none
   |none=>none
  |_=>none
 |none=>none
def zn(D:Nat->Option TI)(U:St)(t u:Nat)(s x:AV):Option (AV×St) :=
 match zZ D U t u s x with
 |some p=>some p
 | none=>match s,x with
  | .ms b off len sz,.sl sz' [] tok=>(match qP D t,qP D u with
   |.sl e,.sl _=>(match D e with|some j=>some (.ms b off len sz,U)|none=>none)
   |_,_=>none)
  |_,_=>none
def qrr(D:Nat->Option TI)(t:Nat)(x:AV):Option AV :=
 match D t with
 | some i=>match i.d,x with
  |.sl _,.sl _ [] .nil=>some (.int .i64 0)
  |_,_=>none
 |none=>none
def qaa:AV->Option Nat
 |.sl _ rows _=>some rows.length
 |.ms _ _ len _=>some len
 |_=>none
def qnw(U:St)(sz m:Nat):AV->Option (List AV)
 |.sl s rows _=>if s=sz/\m<=rows.length then some (rows.take m).flatten else none
 | .ms b off len s=>if s=sz/\m<=len then(match U.H[b]? with
  |some (.cells c)=>cut c off (m*sz)
  |_=>none) else none
 |_=>none
def yJ(D:Nat->Option TI)(U:St)(t:Nat)(d s:AV):Option (AV×St) :=
 match D t,qaa d,qaa s with
 | some i,some dl,some n=>match i.d with
  | .sl e=>match D e with
   | some j=>
    if min n dl=0 then some (.int .i64 0,U) else
    match d with
    | .ms b off len sz=>if sz=j.size then(match qnw U sz (min n len) s,U.H[b]? with
     |some src,some (.cells c)=>if off+min n len*sz<=c.length then some (.int .i64 (min n len:Nat),{U with H:=U.H.set b (.cells (zj c off src))}) else none
     |_,_=>none) else none
    |_=>none
   |none=>none
  |_=>none
 |_,_,_=>none
def mkX(D:Nat->Option TI)(mu:Bool)(U:St)(t:Nat)(l c:AV):Option (List (AV×St)) :=
 match mu,l,c with
 | true,.int _ 0,.int _ 0=>(match qz D U t l c with
  |some (.sl sz [] _,U')=>some [(.sl sz [] .tight,U')]
  |_=>none)
 |_,_,_=>none
@[simp]def qh8{D U t l c}:mkX D false U t l c=none:=by unfold mkX;rfl
def qaM(D:Nat->Option TI)(G:Nat->AV)(mu:Bool)(env:Env)(U:St):Op->Option (List (AV×St))
 |.makeSlice t l c=>mkX D mu U t (ev G env l) (ev G env c)
 | .binOp o t x y _=>match o with
  |.eql=>Wn D false t (ev G env x) (ev G env y) U
  |.neq=>Wn D true t (ev G env x) (ev G env y) U
  |_=>none
 | .call {callee:=.builtin b,args:=args,argTypes:=ts}=>match b,ts.toList,args.toList with
  | .append,[t,u],[s,x]=>match mu with
   |true=>(zn D U t u (ev G env s) (ev G env x)).map fun p=>[p]
   |false=>none
  |.cap,[t],[x]=>(qrr D t (ev G env x)).map fun v=>[(v,U)]
  |.copy,[t,_],[d,s]=>(yJ D U t (ev G env d) (ev G env s)).map fun p=>[p]
  |_,_,_=>none
 |_=>none
section
variable {P:Program}{G:Nat->AV}{w0:World}{ro0:Nat->Nat->Option Value}{K:Kn}{U:St}{w w':World}{N:Nat}{env:Env}{a:Act}
def jn{t d}(h:qP (Dof P) t=d)(hd:d≠.other):∃d',P.underlying t=some d'/\vV P d'=d:=by
 unfold qP at h;split at h
 . rename_i i hD;obtain⟨inf,d',z,hi,hu,_,rfl⟩:=qv hD;exact⟨d',hu,h⟩
 exact absurd h.symm hd
def qrU{d:TypeDesc}{e}(h:vV P d=.ptr e):d=.pointer e:=by
 cases d<;>simp[vV]at h
 . exact h▸rfl
 split at h<;>cases h
def qvs{d:TypeDesc}(h:vV P d=.fn):∃a b c,d=.func a b c:=by
 cases d<;>simp only[vV]at h<;>first|exact⟨_,_,_,rfl⟩|(cases h;done)|(split at h<;>cases h)
def JV{t e:Nat}(hu:P.underlying t=some (.slice e))(bx:Option Addr)(n c:Nat):(Op.equal t (.slice bx n c) (.slice none 0 0)).run P w=.ok bx.isNone w:=by
 show(Op.equalIn (9999+1) t _ _).run P w=_;rw[Op.equalIn];simp only[Sem.run_bind,run_underlying hu,Result.andThen_ok];cases bx<;>rfl
def qi0{t e:Nat}(hu:P.underlying t=some (.pointer e))(bx:Option Addr):(Op.equal t (.pointer bx) (.pointer none)).run P w=.ok bx.isNone w:=by
 show(Op.equalIn (9999+1) t _ _).run P w=_;rw[Op.equalIn];simp only[Sem.run_bind,run_underlying hu,Result.andThen_ok];cases bx<;>rfl
def qn4{t k e:Nat}(hu:P.underlying t=some (.map k e))(bx:Option Nat):(Op.equal t (.map bx) (.map none)).run P w=.ok bx.isNone w:=by
 show(Op.equalIn (9999+1) t _ _).run P w=_;rw[Op.equalIn];simp only[Sem.run_bind,run_underlying hu,Result.andThen_ok];cases bx<;>rfl
def qtd{t:Nat}{a b:Array TypeId}{c:Bool}(hu:P.underlying t=some (.func a b c)):(Op.equal t .nilFunc .nilFunc).run P w=.ok true w:=by
 show(Op.equalIn (9999+1) t _ _).run P w=_;rw[Op.equalIn];simp only[Sem.run_bind,run_underlying hu,Result.andThen_ok];rfl
def qtc{t:Nat}{a b:Array TypeId}{c:Bool}(hu:P.underlying t=some (.func a b c))(f:Fn)(x y:Array Value):(Op.equal t (.func f x y) .nilFunc).run P w=.ok false w:=by
 show(Op.equalIn (9999+1) t _ _).run P w=_;rw[Op.equalIn];simp only[Sem.run_bind,run_underlying hu,Result.andThen_ok];rfl
def qwY:Value->Bool
 |.slice .. =>true
 |.pointer _=>true
 |.map _=>true
 |.nilFunc=>true
 |.func .. =>true
 |_=>false
def qfS{t x y l x' y'}(hx:qg K x x')(hy:qg K y y')(hl:qlC x y=some l)(hfit:ZB (qP (Dof P) t) x=true):
 ∃b∈l,(Op.equal t x' y').run P w=.ok b w/\qwY x'=true:=by
 have nils:∀{sz:Nat},qg K (.sl sz [] .nil) y'->y'=.slice none 0 0:=by
  intro sz h;simp only[qg]at h;rcases h with⟨⟨a0,h1,ha0⟩,_⟩|⟨B,off,cap,h1,h2,h3,h4⟩
  . rw[h1,ha0.resolve_right (by simp)]
  simp[ky]at h4
 have slT:(qP (Dof P) t).isSl=true->∃e,P.underlying t=some (.slice e):=by
  intro he;obtain⟨e,he⟩:=TD.isSl_spec he;obtain⟨d',hu,hd'⟩:=jn he (by simp);exact⟨e,by rw[hu,Qh hd']⟩
 have ptrT:(qP (Dof P) t).isPtr=true->∃e,P.underlying t=some (.pointer e):=by
  intro he;obtain⟨e,he⟩:=TD.isPtr_spec he;obtain⟨d',hu,hd'⟩:=jn he (by simp);exact⟨e,by rw[hu,qrU hd']⟩
 have mapT:(qP (Dof P) t).isMap=true->∃k e,P.underlying t=some (.map k e):=by
  intro he;obtain⟨k,e,he⟩:=TD.isMap_spec he;obtain⟨d',hu,hd'⟩:=jn he (by simp);exact⟨k,e,by rw[hu,qat hd']⟩
 have fnT:(qP (Dof P) t).isFn=true->∃a b c,P.underlying t=some (.func a b c):=by
  intro he;obtain⟨d',hu,hd'⟩:=jn (TD.isFn_spec he) (by simp);obtain⟨a,b,c,rfl⟩:=qvs hd';exact⟨a,b,c,hu⟩
 have slOf:∀{sz rows tok},qg K (.sl sz rows tok) x'->∃bx n c,x'=.slice bx n c/\(rows≠[]->bx.isNone=false)/\(tok=.nil->bx=none):=by
  intro sz rows tok h;simp only[qg]at h;rcases h with⟨⟨a0,h1,ha0⟩,h2,_⟩|⟨B,off,cap,h1,h2,h3,h4⟩
  . exact⟨a0,0,0,h1,fun hne=>absurd h2 hne,fun ht=>ha0.resolve_right (by rw[ht];simp)⟩
  exact⟨_,_,_,h1,fun _=>rfl,fun ht=>by subst ht;simp[ky]at h4⟩
 unfold qlC at hl;split at hl
 case h_12=>cases hl
 all_goals cases hl
 all_goals simp only[ZB]at hfit
 . obtain⟨e,hu⟩:=slT hfit;have:=nils hy;subst this;obtain⟨bx,n,c,rfl,h1,h2⟩:=slOf hx;exact⟨false,by simp,by rw[JV hu,h1 (by simp)],rfl⟩
 . obtain⟨e,hu⟩:=slT hfit;have:=nils hy;subst this;obtain⟨bx,n,c,rfl,h1,h2⟩:=slOf hx;exact⟨true,by simp,by rw[JV hu,h2 rfl];rfl,rfl⟩
 . obtain⟨e,hu⟩:=slT hfit;have:=nils hy;subst this;obtain⟨bx,n,c,rfl,h1,h2⟩:=slOf hx;exact⟨bx.isNone,by cases bx<;>simp,JV hu _ _ _,rfl⟩
 . obtain⟨e,hu⟩:=slT hfit;have:=nils hy;subst this;simp only[qg]at hx;obtain⟨B,cap,hm,rfl,_⟩:=hx;exact⟨false,by simp,by rw[JV hu];rfl,rfl⟩
 . obtain⟨e,hu⟩:=ptrT hfit;simp only[qg]at hx hy;subst hx;subst hy;exact⟨true,by simp,by rw[qi0 hu];rfl,rfl⟩
 . obtain⟨e,hu⟩:=ptrT hfit;simp only[qg]at hx hy;obtain⟨B,hm,rfl⟩:=hx;subst hy;exact⟨false,by simp,by rw[qi0 hu];rfl,rfl⟩
 . obtain⟨e,hu⟩:=ptrT hfit;simp only[qg]at hx hy;obtain⟨B,off,rfl,_⟩:=hx;subst hy;exact⟨false,by simp,by rw[qi0 hu];rfl,rfl⟩
 . obtain⟨k,e,hu⟩:=mapT hfit;simp only[qg]at hx hy;subst hx;subst hy;exact⟨true,by simp,by rw[qn4 hu];rfl,rfl⟩
 . obtain⟨k,e,hu⟩:=mapT hfit;simp only[qg]at hx hy;obtain⟨B,hm,rfl⟩:=hx;subst hy;exact⟨false,by simp,by rw[qn4 hu];rfl,rfl⟩
 . obtain⟨u1,u2,u3,hu⟩:=fnT hfit;simp only[qg]at hx hy;subst hx;subst hy;exact⟨true,by simp,qtd hu,rfl⟩
 obtain⟨u1,u2,u3,hu⟩:=fnT hfit;simp only[qg]at hx hy;obtain⟨va,vb,rfl,_,_⟩:=hx;subst hy;exact⟨false,by simp,qtc hu _ _ _,rfl⟩
def Ji(h:WRel G w0 ro0 K U w){t x y l x' y'}(hx:qg K x x')(hy:qg K y y'){neg}(hf:Wn (Dof P) neg t x y U=some l)(ox oy):
 ∃v U',(v,U')∈l/\U'=U/\∃v',(do eqGuard (if neg then .neq else .eql) t ox oy x' y';binOp (if neg then .neq else .eql) t x' y':Sem Value).run P w=.ok v' w/\qg K v v':=by
 unfold Wn at hf;split at hf
 . rename_i bs hbs;split at hf
   . rename_i hfit;simp only[qyU]at hf;subst hf;obtain⟨b,hb,hrun,h1⟩:=qfS (w:=w) hx hy hbs hfit;refine⟨.bool (b != neg),U,qza.2 ⟨b,hb,rfl⟩,rfl,.bool (b != neg),?_,by simp[qg]⟩;cases neg<;>cases x'<;>simp only[qwY]at h1<;>first|(cases h1;done)|skip
     all_goals
      simp only[qy4,if_false,if_true];rw[Sem.run_bind];simp only[eqGuard,pure];simp[binOp,hrun]
   cases hf
 cases hf
end
section
variable {P:Program}{G:Nat->AV}{w0:World}{ro0:Nat->Nat->Option Value}{K:Kn}{U:St}{w w':World}{N:Nat}{env:Env}{a:Act}
def Zx(t tx ty e el)(i:TypeInfo)(ht:P.underlying t=some (.slice e))(hi:P.info? e=some i)(b sLen sCap cur)(hg:w.heap[b]?=some (.cells cur el (0,0)))
 (x n news) (hs:Src P i.size tx x n news w) (hroom:sLen+n<=sCap) (hfit:sLen*i.size+news.length<=cur.size):
 (Builtin.append_ #[t,tx] ty #[.slice (some ⟨b,0,none⟩) sLen sCap,x]).run P w=.ok (.slice (some ⟨b,0,none⟩) (sLen+n) sCap)
   (w.setRow b (cur.toList.take (sLen*i.size)++news++cur.toList.drop (sLen*i.size+news.length)).toArray):=by
 have hst:=run_storeCells_at P b (sLen*i.size) el news 0 cur w hg (by simpa using hfit) hs.one;simp only[qz8]at hst;rcases hs.kind with⟨e',hk⟩|hk<;>simp[Builtin.append_,run_underlying ht,run_underlying hk,sizeOf,typeInfo,hi,hs.len,hroom,hs.cells,Addr.add_lit,hst]
def qhm(h:WRel G w0 ro0 K U w){j:TI}{x:AV}{x':Value}(hx:qg K x x'){n:Nat}{src:List AV}(hf:KA U j x=some (n,src))(hn:n≠0){u e':Nat}(hu:P.underlying u=some (.slice e')){size:Nat}(hsz:j.size=size):
 ∃news,qh K src news/\src.all AV.atom=true/\Src P size u x' n news w/\src.length=n*size:=by
 unfold KA at hf;split at hf
 . rename_i sz rows tok;split at hf
   . rename_i hc;simp only[qyU,qyW]at hf;obtain⟨rfl,rfl⟩:=hf;have hne:rows≠[]:=fun e=>hn (by simp[e])
     have hsz':sz=size:=(hc.resolve_right hne).trans hsz;subst hsz';simp only[qg]at hx;rcases hx with⟨_,h2,_⟩|⟨B,off,cap,rfl,hcap,hrows,_⟩
     . exact absurd h2 hne
     obtain⟨vs,g1,g2,g3,g4,g5⟩:=wq h hrows;exact⟨vs,g1,g4,Src.ofSlice w hu _ _ _ vs g2 g3 g5,by rw[<- g1.length,g2]⟩
   cases hf
 . rename_i b off len sz;split at hf
   . rename_i hsz1;have hsz':sz=size:=hsz1.trans hsz;subst hsz';split at hf
     . rename_i c hb;obtain⟨s,hs,he⟩:=qyM.1 hf;simp only[qyW]at he;obtain⟨rfl,rfl⟩:=he;unfold cut at hs;split at hs
       . rename_i hl;simp only[qyU]at hs;subst hs;simp only[qg]at hx;obtain⟨B,cap,hm,rfl,hcap,hpos,hbs⟩:=hx;obtain⟨vs,l1,l2⟩:=qgy.of_blk h hb hm off (len*sz) hl;obtain⟨B',g1,g2,g3,⟨cs,el,g4,g5,g6,g7⟩,g8⟩:=h.blk b _ hb;have hat:((c.drop off).take (len*sz)).all AV.atom=true:=by
          rw[qyP]at g5⊢;exact fun x hx=>g5 x (qAj (qzy hx))
         have hlen:((c.drop off).take (len*sz)).length=len*sz:=(by simp;omega);exact⟨vs,l1,hat,Src.ofSlice w hu _ _ _ vs (by rw[l1.length,hlen]) (fun j v e=>by rw[jg];exact l2 j v e) (l1.oneCells hat),hlen⟩
       cases hs
     cases hf
   cases hf
 cases hf
def WRel.again(h:WRel G w0 ro0 K U w){b B c b'}(hb:U.H[b]?=some (.cells c))(hm:K.m b=some B)(hos:w'.os=w.os)(htape:w'.tape=w.tape)(hout:w'.output=w.output)
 (hsz:w'.heap.size=w.heap.size) (hother:∀k,k≠B->w'.heap[k]?=w.heap[k]?) (hb':jV K b' w'.heap[B]?) (hbs:∀cs el fr,w'.heap[B]?=some (.cells cs el fr)->cs.size=K.bs b)
 (hwas:∀cs el fr,w'.heap[B]?=some (.cells cs el fr)->∃cs0 el0 fr0,w.heap[B]?=some (.cells cs0 el0 fr0)):
 K.le (K.addM U.H.length B (K.bs b))/\WRel G w0 ro0 (K.addM U.H.length B (K.bs b)) {U with H:=U.H.set b .dead++[b']} w':=by
 have hbl:b<U.H.length:=(qyF.1 hb).1;have hle:=qCZ h B (K.bs b);have h1:=h.setBlk (b':=.dead) hbl hm hos htape hout hsz hother (by simp[jV]) (by rw[hb];simp) hbs hwas;have hlen:(U.H.set b .dead).length=U.H.length:=by simp
 have alone:∀i,K.m i=some B->(U.H.set b Blk.dead)[i]?=some Blk.dead:=by
  intro i hi;by_cases hib:i=b
  . subst hib;simp[hbl]
  rw[qyI (Ne.symm hib)];rcases h.inj i b B hi hm with h2|h2|h2
  . exact absurd h2 hib
  . exact h2
  rw[hb]at h2;cases h2
 refine⟨hle,⟨h1.below,fun g=>(h1.glob g).mono (Z7 hle),h1.ro,h1.new,?_,?_,?_,?_,h1.chd,h1.chinj,?_,?_,?_,?_⟩⟩
 . intro i b2 e;simp only[qzu]at e;split at e
   . rename_i hi;obtain⟨B2,g1,g2,g3,g4,g5⟩:=h1.blk i b2 e;exact⟨B2,hle.m _ _ g1,g2,g3,g4.mono hle,g5⟩
   rename_i hi;have hi':i=U.H.length:=by
    rcases qCa (i-(U.H.set b .dead).length) 1 with h2|h2
    . omega
    simp[qy6 (l:=[b']) (by simpa using h2)]at e
   subst hi';simp at e;subst e;obtain⟨B0,g1,g2,g3,g4,g5⟩:=h.blk b _ hb;rw[hm]at g1;cases g1;exact⟨B,by simp[Kn.addM],g2,by omega,hb'.mono hle,g5⟩
 . intro i j B2 e1 e2;simp only[Kn.addM]at e1 e2;have left:∀{i},(U.H.set b Blk.dead)[i]?=some Blk.dead->(U.H.set b Blk.dead++[b'])[i]?=some Blk.dead:=fun {i} hi=>by
    rw[qyT (qyF.1 hi).1];exact hi
   split at e1<;>split at e2
   . left;omega
   . simp at e1;subst e1;exact .inr (.inr (left (alone j e2)))
   . simp at e2;subst e2;exact .inr (.inl (left (alone i e1)))
   exact(h1.inj i j B2 e1 e2).imp_right (Or.imp left left)
 . intro i B2 e;simp only[Kn.addM]at e;simp only[qyK,qzZ,qzd];split at e
   . omega
   have:=h.mlt i B2 e;omega
 . intro t k e;obtain⟨C,g1,g2,g3,g4,g5,g6,g7⟩:=h1.ch t k e;refine⟨C,g1,g2,g3,g4,g5,g6,fun i e2=>?_⟩;simp only[Kn.addM]at e2;split at e2
   . simp at e2;exact g7 b (by rw[hm,e2])
   exact g7 i e2
 . exact h1.nch
 . intro i B2 cs el fr e1 e2;simp only[Kn.addM]at e1⊢;split at e1
   . rename_i hi;simp at e1;subst e1;simp[hi];exact h1.bsz b B cs el fr hm e2
   rename_i hi;simp only[hi,if_false];exact h1.bsz i B2 cs el fr e1 e2
 . intro B2 x e;obtain⟨g1,g2,g3,g4⟩:=h1.fx B2 x e;refine⟨g1,g2,fun i e2=>?_,g4⟩;simp only[Kn.addM]at e2;split at e2
   . simp at e2;exact g3 b (by rw[hm,e2])
   exact g3 i e2
 intro n x e;have:=h.rwl n x e;simp only[qyK,qzZ,qzd];omega
def Vh(h:WRel G w0 ro0 K U w){content:List AV}{vs:List Value}(hv:qh K content vs)(hat:content.all AV.atom=true){z:Array Value}{len cap sz e:Nat}(hz:z.size=sz)(hsz:0<sz)(hlen:vs.length=len*sz)(hcap:len<=cap)(h0:0<len):
 ∃K',K.le K'/\WRel G w0 ro0 K' (U.push (.cells content)) (w.alloc (.cells (vs.toArray++Builtin.zeroCells z (cap-len)) e))/\qg K' (.ms U.H.length 0 len sz) (.slice (some ⟨w.heap.size,0,none⟩) len cap):=by
 have hsize:(vs.toArray++Builtin.zeroCells z (cap-len)).size=cap*sz:=by
  simp only[Array.size_append,qBJ,size_zeroCells,hz,hlen,<- qzr];congr 1;omega
 refine⟨_,qCZ h _ _,h.push (o:=.cells (vs.toArray++Builtin.zeroCells z (cap-len)) e) ⟨_,e,rfl,hat,?_,fun i a ea=>?_⟩,?_⟩
 . rw[hsize,<- hv.length,hlen];exact qzx _ hcap
 . obtain⟨v,e1,e2⟩:=hv.get i a ea;have hil:i<vs.length:=(qyF.1 e1).1;exact⟨v,by rw[qBl (by simpa using hil)];simpa using e1,e2⟩
 simp only[qg];exact⟨w.heap.size,cap,by simp[Kn.addM],rfl,hcap,by omega,by simp only[Kn.addM,if_true,jI,hsize];omega⟩
def VW(h:WRel G w0 ro0 K U w){t u:Nat}{s x v:AV}{s' x':Value}(hs:qg K s s')(hx:qg K x x')(ty:Nat){U':St}(hf:zZ (Dof P) U t u s x=some (v,U')):
 Ran P G w0 ro0 K w (Builtin.append_ #[t,u] ty #[s',x']) v U':=by
 unfold zZ at hf;split at hf
 case h_2=>cases hf
 rename_i i hD;obtain⟨inf,d,z,hi,hu,_,rfl⟩:=qv hD;simp only at hf;split at hf
 case h_2=>cases hf
 rename_i e hd;have hd':=Qh hd;subst hd';split at hf
 case h_2=>cases hf
 rename_i j hj;obtain⟨inf2,d2,z2,hi2,hu2,hz2,rfl⟩:=qv hj;simp only at hf;split at hf
 case isFalse=>cases hf
 rename_i hc;obtain⟨hc3,hc4,hc5⟩:=hc;have hzs:z2.cells.size=inf2.size:=by simpa using hc4
 have bound:∀m:Nat,m<=549755813888->m*inf2.bytes<=140737488355328:=fun m hm=>by
  calc m*inf2.bytes<=549755813888*256:=qzY hm hc5
   _<=140737488355328:=by omega
 split at hf
 . -- zeros
   rename_i kn hkn;obtain⟨du,hdu,hdu2⟩:=jn hkn (by simp);have:=Jc hdu2;subst this;split at hf
   case h_2=>cases hf
   rename_i sz0 k n;split at hf
   case isFalse=>cases hf
   rename_i hn;obtain⟨n0,n1,n2⟩:=hn;simp only[qyU,qyW]at hf;obtain⟨rfl,rfl⟩:=hf;simp only[qg]at hx;subst hx;have hs0:s'=.slice none 0 0:=by
    simp only[qg]at hs;rcases hs with⟨⟨a0,hs1,ha0⟩,_⟩|⟨B,off,cap,g1,g2,g3,g4⟩
    . rw[hs1,ha0.resolve_right (by simp)]
    simp[ky]at g4
   subst hs0;obtain⟨m,rfl⟩:=qzg (Int.le_of_lt n0);have hm0:0<m:=(by omega);have hm1:m<=549755813888:=(by omega);have hr:=Lib.run_append_nil_zeros (P:=P) w t u ty e inf2 z2 k kn hu hdu hi2 hz2 m hm0 hc3 (by omega) (by have:=bound m hm1;omega);have hge:=grownCap_ge w m 0 e;have hzr:=J2 (K:=K) (z:=z2) (n:=m) (by omega);have hzl:((Array.range (m*z2.cells.size)).map (z2.cells[· % z2.cells.size]!)).toList.length=m*inf2.size:=(by simp[hzs]);obtain⟨K',k1,k2,k3⟩:=Vh (e:=e) h.drew hzr (by
    rw[qyP];intro x hx;obtain⟨l,hl1,hl2⟩:=qzl.1 hx;rw[(qAx.1 hl1).2]at hl2;rw[qyP]at n2;exact n2 x hl2) hzs hc3 hzl hge hm0
   refine⟨_,_,K',hr,k1,?_,?_⟩
   . simp only[qAO]at k2;exact k2
   simpa using k3
 . -- a slice
   rename_i eu heu;obtain⟨du,hdu,hdu2⟩:=jn heu (by simp);have:=Qh hdu2;subst this;split at hf
   case h_2=>cases hf
   rename_i n src hsrc;split at hf
   . cases hf
   rename_i hn;obtain⟨news,n1,n2,n3,n4⟩:=qhm (P:=P) (u:=u) (size:=inf2.size) h hx hsrc hn hdu rfl;have nl:news.length=n*inf2.size:=n3.newsLen;have fromNil:∀(total:Nat),total=n->n<=549755813888->s'=.slice none 0 0->Ran P G w0 ro0 K w (Builtin.append_ #[t,u] ty #[s',x']) (.ms U.H.length 0 total inf2.size) (U.push (.cells src)):=by
    intro total ht hb hs0;subst ht;subst hs0;have hr:=run_append_grow_src (P:=P) w t u ty e inf2 z2 hu hi2 hz2 none 0 0 [] (by simpa using run_firstCells_none (P:=P) w.drew inf2.size 0 0 0) x' total news n3 (by omega) (by omega) (growslice_fits (by omega) (by have:=bound total hb;simpa using this));have hge:=grownCap_ge w total 0 e;obtain⟨K',k1,k2,k3⟩:=Vh (e:=e) h.drew n1 n2 hzs hc3 nl hge (by omega);simp only[qz9,qy2]at hr;exact⟨_,_,K',hr,k1,k2,by simpa using k3⟩
   have grow:∀(rows:Nat) (content:List AV) (olds:List Value) (base:Addr),qh K content olds->content.all AV.atom=true->olds.length=rows*inf2.size->(∀j v,olds[j]?=some v->w.cell? (base.add j)=some v)->rows+n<=549755813888->∀cap,cap<rows+n ->
    ∃ K',K.le K'/\WRel G w0 ro0 K' (U.push (.cells (content++src))) (w.drew.alloc (.cells ((olds++news).toArray++Builtin.zeroCells z2.cells (grownCap w (rows+n) cap e-(rows+n))) e)) /\
     qg K' (.ms U.H.length 0 (rows+n) inf2.size) (.slice (some ⟨w.heap.size,0,none⟩) (rows+n) (grownCap w (rows+n) cap e)) /\
     (Builtin.append_ #[t,u] ty #[.slice (some base) rows cap,x']).run P w=.ok (.slice (some ⟨w.heap.size,0,none⟩) (rows+n) (grownCap w (rows+n) cap e))
       (w.drew.alloc (.cells ((olds++news).toArray++Builtin.zeroCells z2.cells (grownCap w (rows+n) cap e-(rows+n))) e)):=by
    intro rows content olds base o1 o2 o3 o4 hb cap hcap;have hr:=run_append_grow_src (P:=P) w t u ty e inf2 z2 hu hi2 hz2 (some base) rows cap olds (run_firstCells_some w.drew inf2.size rows base rows cap olds o3 (by simpa using o4)) x' n news n3 hcap (by omega) (growslice_fits (by omega) (bound _ hb));have hge:=grownCap_ge w (rows+n) cap e;obtain⟨K',k1,k2,k3⟩:=Vh (e:=e) h.drew (o1.append n1) (by rw[qAa,o2,n2];rfl) hzs hc3 (by rw[qyK,o3,nl,qzr]) hge (by omega);exact⟨K',k1,k2,by simpa using k3,hr⟩
   split at hf
   . rename_i sz rows tok;split at hf
     . -- nil
       split at hf
       case isFalse=>cases hf
       rename_i hb;simp only[qyU,qyW]at hf;obtain⟨rfl,rfl⟩:=hf;simp only[qg]at hs;rcases hs with⟨⟨a0,h1,ha0⟩,rfl,_⟩|⟨B,off,cap,g1,g2,g3,g4⟩
       . rw[ha0.resolve_right (by simp)]at h1;simpa using fromNil (0+n) (by omega) (by simpa using hb) h1
       simp[ky]at g4
     . -- no spare room
       split at hf
       case isFalse=>cases hf
       rename_i hb;obtain⟨hszr,hb⟩:=hb;simp only[qyU,qyW]at hf;obtain⟨rfl,rfl⟩:=hf;simp only[qg]at hs;rcases hs with⟨⟨a0,h1,ha0⟩,rfl,_⟩|⟨B,off,cap,rfl,hcap,hrows,htok⟩
       . rw[ha0.resolve_right (by simp)]at h1;simpa using fromNil (0+n) (by omega) (by simpa using hb) h1
       simp only[ky]at htok;subst htok;obtain⟨olds,o1,o2,o3,o4,o5⟩:=wq h hrows;have o2':olds.length=rows.length*inf2.size:=by
        rcases hszr with rfl|hr0
        . exact o2
        subst hr0;simpa using o2
       obtain⟨K',k1,k2,k3,k4⟩:=grow rows.length rows.flatten olds ⟨B,off,none⟩ o1 o4 o2' o3 hb rows.length (by omega);exact⟨_,_,K',k4,k1,k2,k3⟩
     cases hf
   . rename_i b off len sz;split at hf
     case h_2=>cases hf
     rename_i c hb;split at hf
     case isFalse=>cases hf
     rename_i hcd;obtain⟨rfl,rfl,hb1,hb2⟩:=hcd;simp only[qyU,qyW]at hf;obtain⟨rfl,rfl⟩:=hf;simp only[qg]at hs;obtain⟨B,cap,hm,rfl,hcap,hpos,hbs⟩:=hs;obtain⟨B',g1,g2,g3,⟨cs,el,g4,g5,g6,g7⟩,g8⟩:=h.blk b _ hb;rw[hm]at g1;cases g1;have hcs:cs.size=K.bs b:=h.bsz b B cs el _ hm g4;obtain⟨olds,l1,l2⟩:=qgy.of_blk h hb hm 0 (len*inf2.size) (by omega);simp only[qzX,qz9]at l1 l2;have hat:(c.take (len*inf2.size)).all AV.atom=true:=by
      rw[qyP]at g5⊢;exact fun x hx=>g5 x (qzy hx)
     have ol:olds.length=len*inf2.size:=(by rw[l1.length];simp;omega);by_cases hroom:len+n<=cap
     . have hmul:(len+n)*inf2.size<=cap*inf2.size:=qzx _ hroom;rw[qzr]at hmul;have hr:=Zx (P:=P) (w:=w) t u ty e el inf2 hu hi2 B len cap cs g4 x' n news n3 hroom (by rw[nl,hcs];omega);have hbk:jV K (.cells (c.take (len*inf2.size)++src)) (w.setRow B (cs.toList.take (len*inf2.size)++news++cs.toList.drop (len*inf2.size+news.length)).toArray).heap[B]?:=by
        refine⟨_,el,setRow_heap w B cs _ el _ g4,by rw[qAa,hat,n2];rfl,?_,fun i a ea=>?_⟩
        . simp[n4,nl];omega
        rw[qzu]at ea;simp only[qA2];split at ea
        . rename_i hil;simp only[qzo]at hil;rw[qzD]at ea;split at ea
          . obtain⟨v,e1,e2⟩:=g7 i a ea;refine⟨v,?_,e2⟩;rw[qze,qyT (by simp;omega),qzD,if_pos (by omega)];simpa using e1
          cases ea
        rename_i hil;simp only[qzo]at hil ea;obtain⟨v,e1,e2⟩:=n1.get _ _ ea;refine⟨v,?_,e2⟩;have hvl:=(qyF.1 e1).1;rw[qze,qyO (by simp;omega),qyT (by simp;omega)];simp only[qzo,qzS];rw[show min (len*inf2.size) cs.size=min (len*inf2.size) c.length by omega];exact e1
       obtain⟨q1,q2⟩:=h.again (b':=.cells (c.take (len*inf2.size)++src)) hb hm (w':=w.setRow B (cs.toList.take (len*inf2.size)++news++cs.toList.drop (len*inf2.size+news.length)).toArray) rfl rfl rfl (by simp[World.setRow]) (fun k hk=>setRow_other w B k _ hk) hbk
        (fun cs2 el2 fr2 e2=>by
          rw[setRow_heap w B cs _ el _ g4]at e2;cases e2;rw[<- hcs];simp[nl];omega) (fun _ _ _ _=>⟨cs,el,_,g4⟩)
       refine⟨_,_,_,hr,q1,q2,?_⟩;simp only[qg];exact⟨B,cap,by simp[Kn.addM],rfl,hroom,hpos,by simp only[Kn.addM,if_true];omega⟩
     obtain⟨K',k1,k2,k3,k4⟩:=grow len (c.take (len*inf2.size)) olds ⟨B,0,none⟩ l1 hat ol (fun j v e=>by rw[jg];simpa using l2 j v e) hb1 cap (by omega);have hbl:b<U.H.length:=(qyF.1 hb).1;have hd:=h.drew.setBlk (w':=w.drew) (b':=.dead) hbl hm rfl rfl rfl rfl (fun _ _=>rfl) (by simp[jV]) (by rw[hb];simp) (fun cs2 el2 fr2 e2=>h.drew.bsz b B cs2 el2 fr2 hm e2) (fun cs2 el2 fr2 e2=>⟨cs2,el2,fr2,e2⟩);have hge:=grownCap_ge w (len+n) cap e;obtain⟨K2,j1,j2,j3⟩:=Vh (e:=e) hd (l1.append n1) (by rw[qAa,hat,n2];rfl) hzs hc3 (by rw[qyK,ol,nl,qzr]) hge (by omega);refine⟨_,_,K2,k4,j1,?_,?_⟩
     . simpa[St.push] using j2
     simpa using j3
   cases hf
 cases hf
def VV(h:WRel G w0 ro0 K U w){t u:Nat}{s x v:AV}{s' x':Value}(hs:qg K s s')(hx:qg K x x')(ty:Nat){U':St}(hf:zn (Dof P) U t u s x=some (v,U')):
 Ran P G w0 ro0 K w (Builtin.append_ #[t,u] ty #[s',x']) v U':=by
 unfold zn at hf;split at hf
 . rename_i p hp;simp only[qyU]at hf;subst hf;exact VW h hs hx ty hp
 split at hf
 case h_2=>cases hf
 rename_i b off len sz sz' tok;split at hf
 case h_2=>cases hf
 rename_i e eu he heu;split at hf
 case h_2=>cases hf
 rename_i j hj;simp only[qyU,qyW]at hf;obtain⟨rfl,rfl⟩:=hf;obtain⟨d1,hu,hd1⟩:=jn he (by simp);have:=Qh hd1;subst this;obtain⟨d2,hu2,hd2⟩:=jn heu (by simp);have:=Qh hd2;subst this;obtain⟨inf2,d3,z2,hi2,hu3,hz2,rfl⟩:=qv hj;refine qC6 h (v':=s') ?_ hs;have hx0:∃bx cx,x'=.slice bx 0 cx:=by
  simp only[qg]at hx;rcases hx with⟨⟨a0,rfl,_⟩,_⟩|⟨B2,off2,cap2,rfl,_⟩
  . exact⟨_,_,rfl⟩
  exact⟨_,_,rfl⟩
 obtain⟨bx,cx,rfl⟩:=hx0;have hf0:(Builtin.firstCells inf2.size 0 (.slice bx 0 cx)).run P w=.ok #[] w:=by
  cases bx<;>simp[Builtin.firstCells,loadCells,loadCellsFrom]
 simp only[qg]at hs;obtain⟨B,cap,hm,rfl,hcap,hpos,hbs⟩:=hs;simp[Builtin.append_,run_underlying hu,run_underlying hu2,sizeOf,typeInfo,hi2,Builtin.lenOf,hcap,hf0,storeCells]
def qjz(h:WRel G w0 ro0 K U w){t:Nat}{x v:AV}{x':Value}(hx:qg K x x')(ty:Nat)(hf:qrr (Dof P) t x=some v):∃v',(Builtin.cap_ #[t] ty #[x']).run P w=.ok v' w/\qg K v v':=by
 unfold qrr at hf;split at hf
 case h_2=>cases hf
 rename_i i hD;obtain⟨inf,d,z,hi,hu,_,rfl⟩:=qv hD;simp only at hf;split at hf
 . rename_i e sz hd;have:=Qh hd;subst this;cases hf;simp only[qg]at hx;rcases hx with⟨⟨a0,rfl,ha0⟩,_⟩|⟨B,off,cap,g1,g2,g3,g4⟩
   . obtain rfl:=ha0.resolve_right (by simp);exact⟨goInt 0,by simp[Builtin.cap_,run_underlying hu],by simp[qg,goInt]⟩
   simp[ky]at g4
 cases hf
def qhK(h:WRel G w0 ro0 K U w){sz m x x'}(hx:qg K x x'){src}(hf:qnw U sz m x=some src)(hm0:m≠0):
 ∃news,qh K src news/\src.all AV.atom=true/\(Builtin.firstCells sz m x').run P w=.ok news.toArray w/\src.length=m*sz:=by
 unfold qnw at hf;split at hf
 . rename_i s rows tok;split at hf
   case isFalse=>cases hf
   rename_i hc;obtain⟨rfl,hml⟩:=hc;simp only[qyU]at hf;subst hf;simp only[qg]at hx;rcases hx with⟨_,h2,_⟩|⟨B,off,cap,rfl,hcap,hrows,_⟩
   . subst h2;simp only[qzH,Nat.le_zero]at hml;exact absurd hml hm0
   have hs:=hrows.sub 0 m;simp only[qAl,qz8,qzX]at hs;obtain⟨vs,g1,g2,g3,g4,g5⟩:=wq h hs;have hl:(rows.take m).length=m:=(by simp;omega);rw[hl]at g2;exact⟨vs,g1,g4,run_firstCells_some w s m _ _ _ vs g2 g3,by rw[<- g2,g1.length]⟩
 . rename_i b off len s;split at hf
   case isFalse=>cases hf
   rename_i hc;obtain⟨rfl,hml⟩:=hc;split at hf
   . rename_i c hb;unfold cut at hf;split at hf
     . rename_i hl;simp only[qyU]at hf;subst hf;simp only[qg]at hx;obtain⟨B,cap,hm,rfl,hcap,hpos,hbs⟩:=hx;obtain⟨vs,l1,l2⟩:=qgy.of_blk h hb hm off (m*s) hl;obtain⟨B',g1,g2,g3,⟨cs,el,g4,g5,g6,g7⟩,g8⟩:=h.blk b _ hb;have hat:((c.drop off).take (m*s)).all AV.atom=true:=by
        rw[qyP]at g5⊢;exact fun x hx=>g5 x (qAj (qzy hx))
       have hlen:((c.drop off).take (m*s)).length=m*s:=(by simp;omega);exact⟨vs,l1,hat,run_firstCells_some w s m _ _ _ vs (by have:=l1.length;omega) (fun j v e=>by rw[jg];exact l2 j v e),hlen⟩
     cases hf
   cases hf
 cases hf
def qen{x x'}(hx:qg K x x'){n}(hf:qaa x=some n):∃b cap,x'=.slice b n cap:=by
 unfold qaa at hf;split at hf
 . rename_i sz rows tok;cases hf;simp only[qg]at hx;rcases hx with⟨⟨a0,rfl,_⟩,rfl,_⟩|⟨B,off,cap,rfl,_⟩
   . exact⟨_,_,rfl⟩
   exact⟨_,_,rfl⟩
 . cases hf;simp only[qg]at hx;obtain⟨B,cap,hm,rfl,_⟩:=hx;exact⟨_,_,rfl⟩
 cases hf
def qgk(h:WRel G w0 ro0 K U w){t u:Nat}{d s v:AV}{d' s':Value}(hd:qg K d d')(hs:qg K s s')(ty:Nat){U':St}(hf:yJ (Dof P) U t d s=some (v,U')):
 Ran P G w0 ro0 K w (Builtin.copy_ #[t,u] ty #[d',s']) v U':=by
 unfold yJ at hf;split at hf
 case h_2=>cases hf
 rename_i i dl n hD hdl hn;obtain⟨inf,dd,z,hi,hu,_,rfl⟩:=qv hD;simp only at hf;split at hf
 case h_2=>cases hf
 rename_i e hde;have:=Qh hde;subst this;split at hf
 case h_2=>cases hf
 rename_i j hj;obtain⟨inf2,d2,z2,hi2,hu2,hz2,rfl⟩:=qv hj;obtain⟨db,dcap,rfl⟩:=qen hd hdl;obtain⟨sb,scap,rfl⟩:=qen hs hn;split at hf
 . rename_i h0;simp only[qyU,qyW]at hf;obtain⟨rfl,rfl⟩:=hf;refine qC6 h (v':=.int .i64 0) ?_ (by simp[qg]);have h0':Nat.min n dl=0:=h0;have hf0:(Builtin.firstCells inf2.size 0 (.slice sb n scap)).run P w=.ok #[] w:=by
    cases sb<;>simp[Builtin.firstCells,loadCells,loadCellsFrom]
   cases db<;>simp[Builtin.copy_,run_underlying hu,sizeOf,typeInfo,hi2,Builtin.lenOf,h0',hf0,storeCells,goInt]
 rename_i h0;split at hf
 case h_2=>cases hf
 rename_i b off len sz;simp only[qaa,qyU]at hdl;subst hdl;simp only at hf;split at hf
 case isFalse=>cases hf
 rename_i hsz;subst hsz;split at hf
 case h_2=>cases hf
 rename_i src c hsrc hb;split at hf
 case isFalse=>cases hf
 rename_i hroom;simp only[qyU,qyW]at hf;obtain⟨rfl,rfl⟩:=hf;obtain⟨news,n1,n2,n3,n4⟩:=qhK (P:=P) h hs hsrc h0;simp only[qg]at hd;obtain⟨B,cap,hm,hdv,hcap,hpos,hbs⟩:=hd;cases hdv;obtain⟨B',g1,g2,g3,⟨cs,el,g4,g5,g6,g7⟩,g8⟩:=h.blk b _ hb;rw[hm]at g1;cases g1;have hbl:b<U.H.length:=(qyF.1 hb).1;have hcs:cs.size=K.bs b:=h.bsz b B cs el _ hm g4;have hnl:news.length=min n len*inf2.size:=by have:=n1.length;omega
 have hone:∀u∈news,u.oneCell'=true:=n1.oneCells n2;have hst:=run_storeCells_at P B off el news 0 cs w g4 (by simp only[qz8];rw[hnl];omega) hone;simp only[qz8]at hst;have hmin:Nat.min n len=min n len:=rfl;refine⟨.int .i64 (min n len:Nat),w.setRow B (cs.toList.take off++news++cs.toList.drop (off+news.length)).toArray,K,?_,qC3 K,
  h.setBlk (B:=B) (b':=.cells (zj c off src)) (w':=w.setRow B (cs.toList.take off++news++cs.toList.drop (off+news.length)).toArray) hbl hm rfl rfl rfl (by simp[World.setRow]) (fun k hk=>setRow_other w B k _ hk) ?_ (by rw[hb];simp)
   (fun cs2 el2 fr2 e2=>by
     rw[setRow_heap w B cs _ el _ g4]at e2;cases e2;rw[<- hcs];simp[hnl];omega) (fun _ _ _ _=>⟨cs,el,_,g4⟩),by simp[qg]⟩
 . simp[Builtin.copy_,run_underlying hu,sizeOf,typeInfo,hi2,Builtin.lenOf,hmin,n3,hst,goInt]
 refine⟨_,el,setRow_heap w B cs _ el _ g4,putAt_all _ _ _ g5 n2,by simp[vB,hnl];omega,fun i a ea=>?_⟩;rw[wu _ _ _ _ (by rw[n4];omega)]at ea;simp only[qA2];split at ea
 . rename_i hin;obtain⟨v,e1,e2⟩:=n1.get _ _ ea;refine⟨v,?_,e2⟩;rw[qze,qyO (by simp;omega),qyT (by rw[hnl];simp;omega)];simp only[qzo,qzS];rw[show min off cs.size=off by omega];exact e1
 rename_i hin;obtain⟨v,e1,e2⟩:=g7 i a ea;refine⟨v,?_,e2⟩;by_cases hlo:i<off
 . rw[qze,qyT (by simp;omega),qzD,if_pos hlo];simpa using e1
 rw[qze,qyO (by simp;omega),qyO (by rw[hnl];simp;omega),qzG];simp only[qzo,qzS];rw[n4]at hin;rw[hnl,show off+min n len*inf2.size+(i-min off cs.size-min n len*inf2.size)=i by omega];simpa using e1
def qh7(hw:WRel G w0 ro0 K U w){t l c l' c'}(hl:qg K l l')(hc:qg K c c'){mu L}(hf:mkX (Dof P) mu U t l c=some L):
 ∃v U',(v,U')∈L/\Ran P G w0 ro0 K w (Instr.makeSlice t l' c') v U':=by
 unfold mkX at hf;split at hf
 case h_2=>cases hf
 rename_i k1 k2;split at hf
 case h_2=>cases hf
 rename_i sz tok U' hms;cases hf;refine⟨_,_,qzh.2 rfl,?_⟩;obtain⟨v',w',K',r1,r2,r3,r4⟩:=vE (P:=P) hw hl hc hms;simp only[qg]at hl hc;subst hl hc;have hv:(∃b,v'=.slice b 0 0/\b.isSome=true)/\¬tok.plain:=by
  unfold qz at hms;split at hms
  case h_2=>cases hms
  rename_i i ln cn hD hln hcn;obtain⟨inf,d,z,hi,hu,_,rfl⟩:=qv hD;cases hln;cases hcn;simp only at hms;split at hms
  case h_2=>cases hms
  rename_i e hd;have hd':=Qh hd;subst hd';split at hms
  case h_2=>cases hms
  rename_i j hj;obtain⟨inf2,d2,z2,hi2,hu2,hz2,rfl⟩:=qv hj;simp only[Instr.makeSlice,Sem.run_bind,run_underlying hu,Result.andThen_ok]at r1;have hwz:IntKind.i64.wrap 0=0:=by decide
  simp[asInt,asIntOf,typeInfo,hi2,hwz,askRoom,sizeOf,zeroValue,hz2,newRow,roomBytes]at r1;refine⟨⟨_,r1.1.symm,rfl⟩,?_⟩;split at hms
  . simp at hms;rw[<- hms.1.2];simp[Tok.plain]
  cases hms
 obtain⟨⟨b,rfl,hb⟩,htk⟩:=hv;refine⟨_,_,_,r1,r2,r3,?_⟩;obtain⟨a,rfl⟩:=qBz.1 hb;simp only[qg]at r4⊢;rcases r4 with⟨⟨a0,h1,ha0⟩,h2,h3⟩|⟨B,off,cap,h1,h2,h3,h4⟩
 . exact absurd h3 htk
 simp at h1;exact .inr ⟨B,off,0,by simp[h1],by simp,h3,by simp[ky]⟩
def K6(hw:WRel G w0 ro0 K U w)(he:ERel K N env a){mu}(o){l}(h:qaM (Dof P) G mu env U o.op=some l):
 ∃v U',(v,U')∈l/\Did P G w0 ro0 K w (execOp a.eval o) v U':=by
 have ex:=Zf hw he;obtain⟨dst,op,type,pos,after,guard⟩:=o;simp only at h;cases op<;>simp only[qaM]at h<;>try(cases h;done)
 case makeSlice t x y=>
  obtain⟨v,U',h1,h2⟩:=qh7 (P:=P) hw (ex x) (ex y) h;exact⟨v,U',h1,qC7 h2⟩
 case binOp o t x y u=>
  cases o<;>simp only at h<;>try(cases h;done)
  . obtain⟨v,U',h1,rfl,h2⟩:=Ji (P:=P) hw (ex x) (ex y) h x y;exact⟨v,U',h1,qC8 hw h2⟩
  obtain⟨v,U',h1,rfl,h2⟩:=Ji (P:=P) hw (ex x) (ex y) h x y;exact⟨v,U',h1,qC8 hw h2⟩
 case call c=>
  obtain⟨callee,args,ts⟩:=c;cases callee<;>simp only at h<;>try(cases h;done)
  rename_i b;split at h
  . rename_i t u s x hts hargs;cases mu
    . cases h
    simp only at h;obtain⟨p,hp,rfl⟩:=qyM.1 h;obtain⟨v,U'⟩:=p;obtain⟨v',w',K',r1,r2,r3,r4⟩:=VV hw (ex s) (ex x) type hp;have eargs:args.map a.eval = #[a.eval s,a.eval x]:=(by apply Array.ext';simp[hargs]);have ets:ts = #[t,u]:=(by apply Array.ext';simpa using hts);exact⟨v,U',qzh.2 rfl,v',w',K',.inl (by simp[execOp,resolve,invoke,builtin,eargs,ets,r1]),r2,r3,r4⟩
  . rename_i t x hts hargs;obtain⟨v,hp,rfl⟩:=qyM.1 h;obtain⟨v',r1,r2⟩:=qjz hw (ex x) type hp;have eargs:args.map a.eval = #[a.eval x]:=(by apply Array.ext';simp[hargs]);have ets:ts = #[t]:=(by apply Array.ext';simpa using hts);exact⟨v,U,qzh.2 rfl,v',w,K,.inl (by simp[execOp,resolve,invoke,builtin,eargs,ets,r1]),qC3 K,hw,r2⟩
  . rename_i t u d s hts hargs;obtain⟨p,hp,rfl⟩:=qyM.1 h;obtain⟨v,U'⟩:=p;obtain⟨v',w',K',r1,r2,r3,r4⟩:=qgk (u:=u) hw (ex d) (ex s) type hp;have eargs:args.map a.eval = #[a.eval d,a.eval s]:=(by apply Array.ext';simp[hargs]);have ets:ts = #[t,u]:=(by apply Array.ext';simpa using hts);exact⟨v,U',qzh.2 rfl,v',w',K',.inl (by simp[execOp,resolve,invoke,builtin,eargs,ets,r1]),r2,r3,r4⟩
  cases h
end
