import Derived.Test.YtafbccendejkeaaGreatDoorPt02
import Derived.Deep.AppendSrc
import Derived.Lib.AppendZerosOnto
import Derived.Test.YtafbccendejkeaaGreatDoorPt03
import Derived.RangeFuncRecord
import Derived.Sort.LoopGhostIn
set_option linter.all false
set_option linter.defProp false
namespace Go.Abs
open Go Go.RowKit
def qnr:AV->AV->Option (List Bool)
 |.sl _ (_::_) _,.sl _ [] .nil=>some [false]
 |.sl _ [] .nil,.sl _ [] .nil=>some [true]
 |.sl _ [] _,.sl _ [] .nil=>some [true,false]
 |.ms ..,.sl _ [] .nil=>some [false]
 |.nilp,.nilp=>some [true]
 |.ptr ..,.nilp=>some [false]
 |.rptr _,.nilp=>some [false]
 |.nilm,.nilm=>some [true]
 |.map _,.nilm=>some [false]
 |.nilf,.nilf=>some [true]
 |.fn ..,.nilf=>some [false]
 |_,_=>none
def TD.isSl:TD->Bool|.sl _=>true|_=>false
def TD.isPtr:TD->Bool|.ptr _=>true|_=>false
def TD.isMap:TD->Bool|.map .. =>true|_=>false
def TD.isFn:TD->Bool|.fn=>true|_=>false
def TD.isSl_spec{d:TD}(h:d.isSl=true):∃e,d=.sl e:=by cases d<;>simp[TD.isSl]at h;exact⟨_,rfl⟩
def TD.isPtr_spec{d:TD}(h:d.isPtr=true):∃e,d=.ptr e:=by cases d<;>simp[TD.isPtr]at h;exact⟨_,rfl⟩
def TD.isMap_spec{d:TD}(h:d.isMap=true):∃k e,d=.map k e:=by cases d<;>simp[TD.isMap]at h;exact⟨_,_,rfl⟩
def TD.isFn_spec{d:TD}(h:d.isFn=true):d=.fn:=by cases d<;>simp[TD.isFn]at h;rfl
def Jn(d:TD):AV->Bool
 |.sl .. =>d.isSl
 |.ms .. =>d.isSl
 |.nilp=>d.isPtr
 |.ptr .. =>d.isPtr
 |.rptr _=>d.isPtr
 |.nilm=>d.isMap
 |.map _=>d.isMap
 |.nilf=>d.isFn
 |.fn .. =>d.isFn
 |_=>false
def Vz(D:Nat->Option TI)(neg:Bool)(t:Nat)(x y:AV)(U:St):Option (List (AV×St)) :=
 match qnr x y with
 |some l=>if Jn (qQ D t) x then some (l.map fun b=>(.bool (b != neg),U)) else none
 |none=>none
def Yv(U:St)(j:TI)(x:AV):Option (Nat×List AV) :=
 match x with
 |.sl sz rows _=>if sz=j.size\/rows=[] then some (rows.length,rows.flatten) else none
 | .ms b off len sz=>if sz=j.size then(match U.H[b]? with
  |some (.cells c)=>(cut c off (len*sz)).map fun s=>(len,s)
  |_=>none) else none
 |_=>none
def zX(D:Nat->Option TI)(U:St)(t u:Nat)(s x:AV):Option (AV×St) :=
 match D t with
 | some i=>match i.d with
  | .sl e=>match D e with
   | some j=>
    if 0<j.size/\j.zero.length=j.size/\j.bytes<=256 then
     match qQ D u with
     | .int _=>match s,x with
      |.sl _ [] .nil,.int _ n=>if 0<n/\n<=549755813888/\j.zero.all AV.atom=true then some (.ms U.H.length 0 n.toNat j.size,U.push (.cells (List.replicate n.toNat j.zero).flatten)) else none
      |_,_=>none
     | .sl _=>match Yv U j x with
      | some (n,src)=>
       if n=0 then none else
       match s with
       | .sl sz rows tok=>match tok with
        |.nil=>if rows.length+n<=549755813888 then some (.ms U.H.length 0 (rows.length+n) j.size,U.push (.cells (rows.flatten++src))) else none
        |.tight=>if(sz=j.size\/rows=[])/\rows.length+n<=549755813888 then some (.ms U.H.length 0 (rows.length+n) j.size,U.push (.cells (rows.flatten++src))) else none
        |_=>none
       | .ms b off len sz=>match U.H[b]? with
        | some (.cells c)=>if sz=j.size/\off=0/\len+n<=549755813888/\len*sz<=c.length then
         some (.ms U.H.length 0 (len+n) sz,{ U with H:=U.H.set b .dead++[.cells (c.take (len*sz)++src)] })
         else none
        |_=>none
       |_=>none
      |none=>none
     |_=>none
    else none
   |none=>none
  |_=>none
 |none=>none
def zq(D:Nat->Option TI)(U:St)(t u:Nat)(s x:AV):Option (AV×St) :=
 match zX D U t u s x with
 |some p=>some p
 | none=>match s,x with
  | .ms b off len sz,.sl sz' [] tok=>(match qQ D t,qQ D u with
   |.sl e,.sl _=>(match D e with|some j=>some (.ms b off len sz,U)|none=>none)
   |_,_=>none)
  |_,_=>none
def qtr(D:Nat->Option TI)(t:Nat)(x:AV):Option AV :=
 match D t with
 | some i=>match i.d,x with
  |.sl _,.sl _ [] .nil=>some (.int .i64 0)
  |_,_=>none
 |none=>none
def qbq:AV->Option Nat
 |.sl _ rows _=>some rows.length
 |.ms _ _ len _=>some len
 |_=>none
def qpj(U:St)(sz m:Nat):AV->Option (List AV)
 |.sl s rows _=>if s=sz/\m<=rows.length then some (rows.take m).flatten else none
 | .ms b off len s=>if s=sz/\m<=len then(match U.H[b]? with
  |some (.cells c)=>cut c off (m*sz)
  |_=>none) else none
 |_=>none
def kj(D:Nat->Option TI)(U:St)(t:Nat)(d s:AV):Option (AV×St) :=
 match D t,qbq d,qbq s with
 | some i,some dl,some n=>match i.d with
  | .sl e=>match D e with
   | some j=>
    if min n dl=0 then some (.int .i64 0,U) else
    match d with
    | .ms b off len sz=>if sz=j.size then(match qpj U sz (min n len) s,U.H[b]? with
     |some src,some (.cells c)=>if off+min n len*sz<=c.length then some (.int .i64 (min n len:Nat),{ U with H:=U.H.set b (.cells (zx c off src)) }) else none
     |_,_=>none) else none
    |_=>none
   |none=>none
  |_=>none
 |_,_,_=>none
def mkX(D:Nat->Option TI)(mu:Bool)(U:St)(t:Nat)(l c:AV):Option (List (AV×St)) :=
 match mu,l,c with
 | true,.int _ 0,.int _ 0=>(match qI D U t l c with
  |some (.sl sz [] _,U')=>some [(.sl sz [] .tight,U')]
  |_=>none)
 |_,_,_=>none
@[simp]def qj5{D U t l c}:mkX D false U t l c=none:=by unfold mkX;rfl
def qb2(D:Nat->Option TI)(G:Nat->AV)(mu:Bool)(env:Env)(U:St):Op->Option (List (AV×St))
 |.makeSlice t l c=>mkX D mu U t (ev G env l) (ev G env c)
 | .binOp o t x y _=>match o with
  |.eql=>Vz D false t (ev G env x) (ev G env y) U
  |.neq=>Vz D true t (ev G env x) (ev G env y) U
  |_=>none
 | .call { callee:=.builtin b,args:=args,argTypes:=ts }=>match b,ts.toList,args.toList with
  | .append,[t,u],[s,x]=>match mu with
   |true=>(zq D U t u (ev G env s) (ev G env x)).map fun p=>[p]
   |false=>none
  |.cap,[t],[x]=>(qtr D t (ev G env x)).map fun v=>[(v,U)]
  |.copy,[t,_],[d,s]=>(kj D U t (ev G env d) (ev G env s)).map fun p=>[p]
  |_,_,_=>none
 |_=>none
section
variable {P:Program}{G:Nat->AV}{w0:World}{ro0:Nat->Nat->Option Value}{K:Kn}{U:St}{w w':World}{N:Nat}{env:Env}{a:Act}
def jC{t d}(h:qQ (Dof P) t=d)(hd:d≠.other):∃d',P.underlying t=some d'/\Qy P d'=d:=by
 unfold qQ at h;split at h
 . rename_i i hD;obtain⟨inf,d',z,hi,hu,_,rfl⟩:=qD hD;exact⟨d',hu,h⟩
 exact absurd h.symm hd
def qtS{d:TypeDesc}{e}(h:Qy P d=.ptr e):d=.pointer e:=by
 cases d<;>simp[Qy]at h
 . exact h▸rfl
 split at h<;>cases h
def qxp{d:TypeDesc}(h:Qy P d=.fn):∃a b c,d=.func a b c:=by
 cases d<;>simp only[Qy]at h<;>first|exact⟨_,_,_,rfl⟩|(cases h;done)|(split at h<;>cases h)
def YI{t e:Nat}(hu:P.underlying t=some (.slice e))(bx:Option Addr)(n c:Nat):(Op.equal t (.slice bx n c) (.slice none 0 0)).run P w=.ok bx.isNone w:=by
 show(Op.equalIn (9999+1) t _ _).run P w=_;rw[Op.equalIn];simp only[Sem.run_bind,run_underlying hu,Result.andThen_ok];cases bx<;>rfl
def qkO{t e:Nat}(hu:P.underlying t=some (.pointer e))(bx:Option Addr):(Op.equal t (.pointer bx) (.pointer none)).run P w=.ok bx.isNone w:=by
 show(Op.equalIn (9999+1) t _ _).run P w=_;rw[Op.equalIn];simp only[Sem.run_bind,run_underlying hu,Result.andThen_ok];cases bx<;>rfl
def qpT{t k e:Nat}(hu:P.underlying t=some (.map k e))(bx:Option Nat):(Op.equal t (.map bx) (.map none)).run P w=.ok bx.isNone w:=by
 show(Op.equalIn (9999+1) t _ _).run P w=_;rw[Op.equalIn];simp only[Sem.run_bind,run_underlying hu,Result.andThen_ok];cases bx<;>rfl
def qvc{t:Nat}{a b:Array TypeId}{c:Bool}(hu:P.underlying t=some (.func a b c)):(Op.equal t .nilFunc .nilFunc).run P w=.ok true w:=by
 show(Op.equalIn (9999+1) t _ _).run P w=_;rw[Op.equalIn];simp only[Sem.run_bind,run_underlying hu,Result.andThen_ok];rfl
def qvb{t:Nat}{a b:Array TypeId}{c:Bool}(hu:P.underlying t=some (.func a b c))(f:Fn)(x y:Array Value):(Op.equal t (.func f x y) .nilFunc).run P w=.ok false w:=by
 show(Op.equalIn (9999+1) t _ _).run P w=_;rw[Op.equalIn];simp only[Sem.run_bind,run_underlying hu,Result.andThen_ok];rfl
def qyH:Value->Bool
 |.slice .. =>true
 |.pointer _=>true
 |.map _=>true
 |.nilFunc=>true
 |.func .. =>true
 |_=>false
def qhL{t x y l x' y'}(hx:qi K x x')(hy:qi K y y')(hl:qnr x y=some l)(hfit:Jn (qQ (Dof P) t) x=true) :
 ∃b∈l,(Op.equal t x' y').run P w=.ok b w/\qyH x'=true:=by
 have nils:∀{sz:Nat},qi K (.sl sz [] .nil) y'->y'=.slice none 0 0:=by
  intro sz h;simp only[qi]at h;rcases h with⟨⟨a0,h1,ha0⟩,_⟩|⟨B,off,cap,h1,h2,h3,h4⟩
  . rw[h1,ha0.resolve_right (by simp)]
  simp[wg]at h4
 have slT:(qQ (Dof P) t).isSl=true->∃e,P.underlying t=some (.slice e):=by
  intro he;obtain⟨e,he⟩:=TD.isSl_spec he;obtain⟨d',hu,hd'⟩:=jC he (by simp);exact⟨e,by rw[hu,QQ hd']⟩
 have ptrT:(qQ (Dof P) t).isPtr=true->∃e,P.underlying t=some (.pointer e):=by
  intro he;obtain⟨e,he⟩:=TD.isPtr_spec he;obtain⟨d',hu,hd'⟩:=jC he (by simp);exact⟨e,by rw[hu,qtS hd']⟩
 have mapT:(qQ (Dof P) t).isMap=true->∃k e,P.underlying t=some (.map k e):=by
  intro he;obtain⟨k,e,he⟩:=TD.isMap_spec he;obtain⟨d',hu,hd'⟩:=jC he (by simp);exact⟨k,e,by rw[hu,qbK hd']⟩
 have fnT:(qQ (Dof P) t).isFn=true->∃a b c,P.underlying t=some (.func a b c):=by
  intro he;obtain⟨d',hu,hd'⟩:=jC (TD.isFn_spec he) (by simp);obtain⟨a,b,c,rfl⟩:=qxp hd';exact⟨a,b,c,hu⟩
 have slOf:∀{sz rows tok},qi K (.sl sz rows tok) x'->∃bx n c,x'=.slice bx n c/\(rows≠[]->bx.isNone=false)/\(tok=.nil->bx=none):=by
  intro sz rows tok h;simp only[qi]at h;rcases h with⟨⟨a0,h1,ha0⟩,h2,_⟩|⟨B,off,cap,h1,h2,h3,h4⟩
  . exact⟨a0,0,0,h1,fun hne=>absurd h2 hne,fun ht=>ha0.resolve_right (by rw[ht];simp)⟩
  exact⟨_,_,_,h1,fun _=>rfl,fun ht=>by subst ht;simp[wg]at h4⟩
 unfold qnr at hl;split at hl
 case h_12=>cases hl
 all_goals cases hl
 all_goals simp only[Jn]at hfit
 . obtain⟨e,hu⟩:=slT hfit;have:=nils hy;subst this;obtain⟨bx,n,c,rfl,h1,h2⟩:=slOf hx;exact⟨false,by simp,by rw[YI hu,h1 (by simp)],rfl⟩
 . obtain⟨e,hu⟩:=slT hfit;have:=nils hy;subst this;obtain⟨bx,n,c,rfl,h1,h2⟩:=slOf hx;exact⟨true,by simp,by rw[YI hu,h2 rfl];rfl,rfl⟩
 . obtain⟨e,hu⟩:=slT hfit;have:=nils hy;subst this;obtain⟨bx,n,c,rfl,h1,h2⟩:=slOf hx;exact⟨bx.isNone,by cases bx<;>simp,YI hu _ _ _,rfl⟩
 . obtain⟨e,hu⟩:=slT hfit;have:=nils hy;subst this;simp only[qi]at hx;obtain⟨B,cap,hm,rfl,_⟩:=hx;exact⟨false,by simp,by rw[YI hu];rfl,rfl⟩
 . obtain⟨e,hu⟩:=ptrT hfit;simp only[qi]at hx hy;subst hx;subst hy;exact⟨true,by simp,by rw[qkO hu];rfl,rfl⟩
 . obtain⟨e,hu⟩:=ptrT hfit;simp only[qi]at hx hy;obtain⟨B,hm,rfl⟩:=hx;subst hy;exact⟨false,by simp,by rw[qkO hu];rfl,rfl⟩
 . obtain⟨e,hu⟩:=ptrT hfit;simp only[qi]at hx hy;obtain⟨B,off,rfl,_⟩:=hx;subst hy;exact⟨false,by simp,by rw[qkO hu];rfl,rfl⟩
 . obtain⟨k,e,hu⟩:=mapT hfit;simp only[qi]at hx hy;subst hx;subst hy;exact⟨true,by simp,by rw[qpT hu];rfl,rfl⟩
 . obtain⟨k,e,hu⟩:=mapT hfit;simp only[qi]at hx hy;obtain⟨B,hm,rfl⟩:=hx;subst hy;exact⟨false,by simp,by rw[qpT hu];rfl,rfl⟩
 . obtain⟨u1,u2,u3,hu⟩:=fnT hfit;simp only[qi]at hx hy;subst hx;subst hy;exact⟨true,by simp,qvc hu,rfl⟩
 obtain⟨u1,u2,u3,hu⟩:=fnT hfit;simp only[qi]at hx hy;obtain⟨va,vb,rfl,_,_⟩:=hx;subst hy;exact⟨false,by simp,qvb hu _ _ _,rfl⟩
def JZ(h:WRel G w0 ro0 K U w){t x y l x' y'}(hx:qi K x x')(hy:qi K y y'){neg}(hf:Vz (Dof P) neg t x y U=some l)(ox oy) :
 ∃v U',(v,U')∈l/\U'=U/\∃v',(do eqGuard (if neg then .neq else .eql) t ox oy x' y';binOp (if neg then .neq else .eql) t x' y':Sem Value).run P w=.ok v' w/\qi K v v':=by
 unfold Vz at hf;split at hf
 . rename_i bs hbs;split at hf
   . rename_i hfit;simp only[qAG]at hf;subst hf;obtain⟨b,hb,hrun,h1⟩:=qhL (w:=w) hx hy hbs hfit;refine⟨.bool (b != neg),U,qAN.2 ⟨b,hb,rfl⟩,rfl,.bool (b != neg),?_,by simp[qi]⟩;cases neg<;>cases x'<;>simp only[qyH]at h1<;>first|(cases h1;done)|skip
     all_goals
      simp only[qAP,if_false,if_true];rw[Sem.run_bind];simp only[eqGuard,pure];simp[binOp,hrun]
   cases hf
 cases hf
end
section
variable {P:Program}{G:Nat->AV}{w0:World}{ro0:Nat->Nat->Option Value}{K:Kn}{U:St}{w w':World}{N:Nat}{env:Env}{a:Act}
def Jk(t tx ty e el)(i:TypeInfo)(ht:P.underlying t=some (.slice e))(hi:P.info? e=some i)(b sLen sCap cur)(hg:w.heap[b]?=some (.cells cur el (0,0)))
 (x n news) (hs:Src P i.size tx x n news w) (hroom:sLen+n<=sCap) (hfit:sLen*i.size+news.length<=cur.size) :
 (Builtin.append_ #[t,tx] ty #[.slice (some ⟨b,0,none⟩) sLen sCap,x]).run P w=.ok (.slice (some ⟨b,0,none⟩) (sLen+n) sCap)
   (w.setRow b (cur.toList.take (sLen*i.size)++news++cur.toList.drop (sLen*i.size+news.length)).toArray):=by
 have hst:=run_storeCells_at P b (sLen*i.size) el news 0 cur w hg (by simpa using hfit) hs.one;simp only[qBP]at hst;rcases hs.kind with⟨e',hk⟩|hk<;>simp[Builtin.append_,run_underlying ht,run_underlying hk,sizeOf,typeInfo,hi,hs.len,hroom,hs.cells,Addr.add_lit,hst]
def qi7(h:WRel G w0 ro0 K U w){j:TI}{x:AV}{x':Value}(hx:qi K x x'){n:Nat}{src:List AV}(hf:Yv U j x=some (n,src))(hn:n≠0){u e':Nat}(hu:P.underlying u=some (.slice e')){size:Nat}(hsz:j.size=size) :
 ∃news,qj K src news/\src.all AV.atom=true/\Src P size u x' n news w/\src.length=n*size:=by
 unfold Yv at hf;split at hf
 . rename_i sz rows tok;split at hf
   . rename_i hc;simp only[qAG,qAE]at hf;obtain⟨rfl,rfl⟩:=hf;have hne:rows≠[]:=fun e=>hn (by simp[e])
     have hsz':sz=size:=(hc.resolve_right hne).trans hsz;subst hsz';simp only[qi]at hx;rcases hx with⟨_,h2,_⟩|⟨B,off,cap,rfl,hcap,hrows,_⟩
     . exact absurd h2 hne
     obtain⟨vs,g1,g2,g3,g4,g5⟩:=wM h hrows;exact⟨vs,g1,g4,Src.ofSlice w hu _ _ _ vs g2 g3 g5,by rw[<- g1.length,g2]⟩
   cases hf
 . rename_i b off len sz;split at hf
   . rename_i hsz1;have hsz':sz=size:=hsz1.trans hsz;subst hsz';split at hf
     . rename_i c hb;obtain⟨s,hs,he⟩:=qAu.1 hf;simp only[qAE]at he;obtain⟨rfl,rfl⟩:=he;unfold cut at hs;split at hs
       . rename_i hl;simp only[qAG]at hs;subst hs;simp only[qi]at hx;obtain⟨B,cap,hm,rfl,hcap,hpos,hbs⟩:=hx;obtain⟨vs,l1,l2⟩:=qiu.of_blk h hb hm off (len*sz) hl;obtain⟨B',g1,g2,g3,⟨cs,el,g4,g5,g6,g7⟩,g8⟩:=h.blk b _ hb;have hat:((c.drop off).take (len*sz)).all AV.atom=true:=by
          rw[qAv]at g5⊢;exact fun x hx=>g5 x (qBS (qBa hx))
         have hlen:((c.drop off).take (len*sz)).length=len*sz:=(by simp;omega);exact⟨vs,l1,hat,Src.ofSlice w hu _ _ _ vs (by rw[l1.length,hlen]) (fun j v e=>by rw[js];exact l2 j v e) (l1.oneCells hat),hlen⟩
       cases hs
     cases hf
   cases hf
 cases hf
def WRel.again(h:WRel G w0 ro0 K U w){b B c b'}(hb:U.H[b]?=some (.cells c))(hm:K.m b=some B)(hos:w'.os=w.os)(htape:w'.tape=w.tape)(hout:w'.output=w.output)
 (hsz:w'.heap.size=w.heap.size) (hother:∀k,k≠B->w'.heap[k]?=w.heap[k]?) (hb':ye K b' w'.heap[B]?) (hbs:∀cs el fr,w'.heap[B]?=some (.cells cs el fr)->cs.size=K.bs b)
 (hwas:∀cs el fr,w'.heap[B]?=some (.cells cs el fr)->∃cs0 el0 fr0,w.heap[B]?=some (.cells cs0 el0 fr0)) :
 K.le (K.addM U.H.length B (K.bs b))/\WRel G w0 ro0 (K.addM U.H.length B (K.bs b)) { U with H:=U.H.set b .dead++[b'] } w':=by
 have hbl:b<U.H.length:=(qAm.1 hb).1;have hle:=qEW h B (K.bs b);have h1:=h.setBlk (b':=.dead) hbl hm hos htape hout hsz hother (by simp[ye]) (by rw[hb];simp) hbs hwas;have hlen:(U.H.set b .dead).length=U.H.length:=by simp
 have alone:∀i,K.m i=some B->(U.H.set b Blk.dead)[i]?=some Blk.dead:=by
  intro i hi;by_cases hib:i=b
  . subst hib;simp[hbl]
  rw[qAp (Ne.symm hib)];rcases h.inj i b B hi hm with h2|h2|h2
  . exact absurd h2 hib
  . exact h2
  rw[hb]at h2;cases h2
 refine⟨hle,⟨h1.below,fun g=>(h1.glob g).mono (JN hle),h1.ro,h1.new,?_,?_,?_,?_,h1.chd,h1.chinj,?_,?_,?_,?_⟩⟩
 . intro i b2 e;simp only[qBg]at e;split at e
   . rename_i hi;obtain⟨B2,g1,g2,g3,g4,g5⟩:=h1.blk i b2 e;exact⟨B2,hle.m _ _ g1,g2,g3,g4.mono hle,g5⟩
   rename_i hi;have hi':i=U.H.length:=by
    rcases qD3 (i-(U.H.set b .dead).length) 1 with h2|h2
    . omega
    simp[qAU (l:=[b']) (by simpa using h2)]at e
   subst hi';simp at e;subst e;obtain⟨B0,g1,g2,g3,g4,g5⟩:=h.blk b _ hb;rw[hm]at g1;cases g1;exact⟨B,by simp[Kn.addM],g2,by omega,hb'.mono hle,g5⟩
 . intro i j B2 e1 e2;simp only[Kn.addM]at e1 e2;have left:∀{i},(U.H.set b Blk.dead)[i]?=some Blk.dead->(U.H.set b Blk.dead++[b'])[i]?=some Blk.dead:=fun {i} hi=>by
    rw[qAB (qAm.1 hi).1];exact hi
   split at e1<;>split at e2
   . left;omega
   . simp at e1;subst e1;exact .inr (.inr (left (alone j e2)))
   . simp at e2;subst e2;exact .inr (.inl (left (alone i e1)))
   exact(h1.inj i j B2 e1 e2).imp_right (Or.imp left left)
 . intro i B2 e;simp only[Kn.addM]at e;simp only[qAq,qBK,qAQ];split at e
   . omega
   have:=h.mlt i B2 e;omega
 . intro t k e;obtain⟨C,g1,g2,g3,g4,g5,g6,g7⟩:=h1.ch t k e;refine⟨C,g1,g2,g3,g4,g5,g6,fun i e2=>?_⟩;simp only[Kn.addM]at e2;split at e2
   . simp at e2;exact g7 b (by rw[hm,e2])
   exact g7 i e2
 . exact h1.nch
 . intro i B2 cs el fr e1 e2;simp only[Kn.addM]at e1⊢;split at e1
   . rename_i hi;simp at e1;subst e1;simp[hi];exact h1.bsz b B cs el fr hm e2
   rename_i hi;simp only[hi,if_false];exact h1.bsz i B2 cs el fr e1 e2
 . intro B2 x e;obtain⟨g1,g2,g3,g4⟩:=h1.fx B2 x e;refine⟨g1,g2,fun i e2=>?_,g4⟩;simp only[Kn.addM]at e2;split at e2
   . simp at e2;exact g3 b (by rw[hm,e2])
   exact g3 i e2
 intro n x e;have:=h.rwl n x e;simp only[qAq,qBK,qAQ];omega
def qaC(h:WRel G w0 ro0 K U w){content:List AV}{vs:List Value}(hv:qj K content vs)(hat:content.all AV.atom=true){z:Array Value}{len cap sz e:Nat}(hz:z.size=sz)(hsz:0<sz)(hlen:vs.length=len*sz)(hcap:len<=cap)(h0:0<len) :
 ∃K',K.le K'/\WRel G w0 ro0 K' (U.push (.cells content)) (w.alloc (.cells (vs.toArray++Builtin.zeroCells z (cap-len)) e))/\qi K' (.ms U.H.length 0 len sz) (.slice (some ⟨w.heap.size,0,none⟩) len cap):=by
 have hsize:(vs.toArray++Builtin.zeroCells z (cap-len)).size=cap*sz:=by
  simp only[Array.size_append,qDo,size_zeroCells,hz,hlen,<- qBs];congr 1;omega
 refine⟨_,qEW h _ _,h.push (o:=.cells (vs.toArray++Builtin.zeroCells z (cap-len)) e) ⟨_,e,rfl,hat,?_,fun i a ea=>?_⟩,?_⟩
 . rw[hsize,<- hv.length,hlen];exact qBl _ hcap
 . obtain⟨v,e1,e2⟩:=hv.get i a ea;have hil:i<vs.length:=(qAm.1 e1).1;exact⟨v,by rw[qC3 (by simpa using hil)];simpa using e1,e2⟩
 simp only[qi];exact⟨w.heap.size,cap,by simp[Kn.addM],rfl,hcap,by omega,by simp only[Kn.addM,if_true,j5,hsize];omega⟩
def qbg(h:WRel G w0 ro0 K U w){t u:Nat}{s x v:AV}{s' x':Value}(hs:qi K s s')(hx:qi K x x')(ty:Nat){U':St}(hf:zX (Dof P) U t u s x=some (v,U')) :
 Ran P G w0 ro0 K w (Builtin.append_ #[t,u] ty #[s',x']) v U':=by
 unfold zX at hf;split at hf
 case h_2=>cases hf
 rename_i i hD;obtain⟨inf,d,z,hi,hu,_,rfl⟩:=qD hD;simp only at hf;split at hf
 case h_2=>cases hf
 rename_i e hd;have hd':=QQ hd;subst hd';split at hf
 case h_2=>cases hf
 rename_i j hj;obtain⟨inf2,d2,z2,hi2,hu2,hz2,rfl⟩:=qD hj;simp only at hf;split at hf
 case isFalse=>cases hf
 rename_i hc;obtain⟨hc3,hc4,hc5⟩:=hc;have hzs:z2.cells.size=inf2.size:=by simpa using hc4
 have bound:∀m:Nat,m<=549755813888->m*inf2.bytes<=140737488355328:=fun m hm=>by
  calc m*inf2.bytes<=549755813888*256:=qCz hm hc5
   _<=140737488355328:=by omega
 split at hf
 . -- zeros
   rename_i kn hkn;obtain⟨du,hdu,hdu2⟩:=jC hkn (by simp);have:=JR hdu2;subst this;split at hf
   case h_2=>cases hf
   rename_i sz0 k n;split at hf
   case isFalse=>cases hf
   rename_i hn;obtain⟨n0,n1,n2⟩:=hn;simp only[qAG,qAE]at hf;obtain⟨rfl,rfl⟩:=hf;simp only[qi]at hx;subst hx;have hs0:s'=.slice none 0 0:=by
    simp only[qi]at hs;rcases hs with⟨⟨a0,hs1,ha0⟩,_⟩|⟨B,off,cap,g1,g2,g3,g4⟩
    . rw[hs1,ha0.resolve_right (by simp)]
    simp[wg]at g4
   subst hs0;obtain⟨m,rfl⟩:=qAH (Int.le_of_lt n0);have hm0:0<m:=(by omega);have hm1:m<=549755813888:=(by omega);have hr:=Lib.run_append_nil_zeros (P:=P) w t u ty e inf2 z2 k kn hu hdu hi2 hz2 m hm0 hc3 (by omega) (by have:=bound m hm1;omega);have hge:=grownCap_ge w m 0 e;have hzr:=YP (K:=K) (z:=z2) (n:=m) (by omega);have hzl:((Array.range (m*z2.cells.size)).map (z2.cells[· % z2.cells.size]!)).toList.length=m*inf2.size:=(by simp[hzs]);obtain⟨K',k1,k2,k3⟩:=qaC (e:=e) h.drew hzr (by
    rw[qAv];intro x hx;obtain⟨l,hl1,hl2⟩:=qAX.1 hx;rw[(qCc.1 hl1).2]at hl2;rw[qAv]at n2;exact n2 x hl2) hzs hc3 hzl hge hm0
   refine⟨_,_,K',hr,k1,?_,?_⟩
   . simp only[qCt]at k2;exact k2
   simpa using k3
 . -- a slice
   rename_i eu heu;obtain⟨du,hdu,hdu2⟩:=jC heu (by simp);have:=QQ hdu2;subst this;split at hf
   case h_2=>cases hf
   rename_i n src hsrc;split at hf
   . cases hf
   rename_i hn;obtain⟨news,n1,n2,n3,n4⟩:=qi7 (P:=P) (u:=u) (size:=inf2.size) h hx hsrc hn hdu rfl;have nl:news.length=n*inf2.size:=n3.newsLen;have fromNil:∀(total:Nat),total=n->n<=549755813888->s'=.slice none 0 0->Ran P G w0 ro0 K w (Builtin.append_ #[t,u] ty #[s',x']) (.ms U.H.length 0 total inf2.size) (U.push (.cells src)):=by
    intro total ht hb hs0;subst ht;subst hs0;have hr:=run_append_grow_src (P:=P) w t u ty e inf2 z2 hu hi2 hz2 none 0 0 [] (by simpa using run_firstCells_none (P:=P) w.drew inf2.size 0 0 0) x' total news n3 (by omega) (by omega) (growslice_fits (by omega) (by have:=bound total hb;simpa using this));have hge:=grownCap_ge w total 0 e;obtain⟨K',k1,k2,k3⟩:=qaC (e:=e) h.drew n1 n2 hzs hc3 nl hge (by omega);simp only[qBQ,qAK]at hr;exact⟨_,_,K',hr,k1,k2,by simpa using k3⟩
   have qez:∀(rows:Nat) (content:List AV) (olds:List Value) (base:Addr),qj K content olds->content.all AV.atom=true->olds.length=rows*inf2.size->(∀j v,olds[j]?=some v->w.cell? (base.add j)=some v)->rows+n<=549755813888->∀cap,cap<rows+n ->
    ∃ K',K.le K'/\WRel G w0 ro0 K' (U.push (.cells (content++src))) (w.drew.alloc (.cells ((olds++news).toArray++Builtin.zeroCells z2.cells (grownCap w (rows+n) cap e-(rows+n))) e)) /\
     qi K' (.ms U.H.length 0 (rows+n) inf2.size) (.slice (some ⟨w.heap.size,0,none⟩) (rows+n) (grownCap w (rows+n) cap e)) /\
     (Builtin.append_ #[t,u] ty #[.slice (some base) rows cap,x']).run P w=.ok (.slice (some ⟨w.heap.size,0,none⟩) (rows+n) (grownCap w (rows+n) cap e))
       (w.drew.alloc (.cells ((olds++news).toArray++Builtin.zeroCells z2.cells (grownCap w (rows+n) cap e-(rows+n))) e)):=by
    intro rows content olds base o1 o2 o3 o4 hb cap hcap;have hr:=run_append_grow_src (P:=P) w t u ty e inf2 z2 hu hi2 hz2 (some base) rows cap olds (run_firstCells_some w.drew inf2.size rows base rows cap olds o3 (by simpa using o4)) x' n news n3 hcap (by omega) (growslice_fits (by omega) (bound _ hb));have hge:=grownCap_ge w (rows+n) cap e;obtain⟨K',k1,k2,k3⟩:=qaC (e:=e) h.drew (o1.append n1) (by rw[qBX,o2,n2];rfl) hzs hc3 (by rw[qAq,o3,nl,qBs]) hge (by omega);exact⟨K',k1,k2,by simpa using k3,hr⟩
   split at hf
   . rename_i sz rows tok;split at hf
     . -- nil
       split at hf
       case isFalse=>cases hf
       rename_i hb;simp only[qAG,qAE]at hf;obtain⟨rfl,rfl⟩:=hf;simp only[qi]at hs;rcases hs with⟨⟨a0,h1,ha0⟩,rfl,_⟩|⟨B,off,cap,g1,g2,g3,g4⟩
       . rw[ha0.resolve_right (by simp)]at h1;simpa using fromNil (0+n) (by omega) (by simpa using hb) h1
       simp[wg]at g4
     . -- no spare room
       split at hf
       case isFalse=>cases hf
       rename_i hb;obtain⟨hszr,hb⟩:=hb;simp only[qAG,qAE]at hf;obtain⟨rfl,rfl⟩:=hf;simp only[qi]at hs;rcases hs with⟨⟨a0,h1,ha0⟩,rfl,_⟩|⟨B,off,cap,rfl,hcap,hrows,htok⟩
       . rw[ha0.resolve_right (by simp)]at h1;simpa using fromNil (0+n) (by omega) (by simpa using hb) h1
       simp only[wg]at htok;subst htok;obtain⟨olds,o1,o2,o3,o4,o5⟩:=wM h hrows;have o2':olds.length=rows.length*inf2.size:=by
        rcases hszr with rfl|hr0
        . exact o2
        subst hr0;simpa using o2
       obtain⟨K',k1,k2,k3,k4⟩:=qez rows.length rows.flatten olds ⟨B,off,none⟩ o1 o4 o2' o3 hb rows.length (by omega);exact⟨_,_,K',k4,k1,k2,k3⟩
     cases hf
   . rename_i b off len sz;split at hf
     case h_2=>cases hf
     rename_i c hb;split at hf
     case isFalse=>cases hf
     rename_i hcd;obtain⟨rfl,rfl,hb1,hb2⟩:=hcd;simp only[qAG,qAE]at hf;obtain⟨rfl,rfl⟩:=hf;simp only[qi]at hs;obtain⟨B,cap,hm,rfl,hcap,hpos,hbs⟩:=hs;obtain⟨B',g1,g2,g3,⟨cs,el,g4,g5,g6,g7⟩,g8⟩:=h.blk b _ hb;rw[hm]at g1;cases g1;have hcs:cs.size=K.bs b:=h.bsz b B cs el _ hm g4;obtain⟨olds,l1,l2⟩:=qiu.of_blk h hb hm 0 (len*inf2.size) (by omega);simp only[qBz,qBQ]at l1 l2;have hat:(c.take (len*inf2.size)).all AV.atom=true:=by
      rw[qAv]at g5⊢;exact fun x hx=>g5 x (qBa hx)
     have ol:olds.length=len*inf2.size:=(by rw[l1.length];simp;omega);by_cases hroom:len+n<=cap
     . have hmul:(len+n)*inf2.size<=cap*inf2.size:=qBl _ hroom;rw[qBs]at hmul;have hr:=Jk (P:=P) (w:=w) t u ty e el inf2 hu hi2 B len cap cs g4 x' n news n3 hroom (by rw[nl,hcs];omega);have hbk:ye K (.cells (c.take (len*inf2.size)++src)) (w.setRow B (cs.toList.take (len*inf2.size)++news++cs.toList.drop (len*inf2.size+news.length)).toArray).heap[B]? := by
        refine⟨_,el,setRow_heap w B cs _ el _ g4,by rw[qBX,hat,n2];rfl,?_,fun i a ea=>?_⟩
        . simp[n4,nl];omega
        rw[qBg]at ea;simp only[qCD];split at ea
        . rename_i hil;simp only[qA8]at hil;rw[qBo]at ea;split at ea
          . obtain⟨v,e1,e2⟩:=g7 i a ea;refine⟨v,?_,e2⟩;rw[qA4,qAB (by simp;omega),qBo,if_pos (by omega)];simpa using e1
          cases ea
        rename_i hil;simp only[qA8]at hil ea;obtain⟨v,e1,e2⟩:=n1.get _ _ ea;refine⟨v,?_,e2⟩;have hvl:=(qAm.1 e1).1;rw[qA4,qAw (by simp;omega),qAB (by simp;omega)];simp only[qA8,qBE];rw[show min (len*inf2.size) cs.size=min (len*inf2.size) c.length by omega];exact e1
       obtain⟨q1,q2⟩:=h.again (b':=.cells (c.take (len*inf2.size)++src)) hb hm (w':=w.setRow B (cs.toList.take (len*inf2.size)++news++cs.toList.drop (len*inf2.size+news.length)).toArray) rfl rfl rfl (by simp[World.setRow]) (fun k hk=>setRow_other w B k _ hk) hbk
        (fun cs2 el2 fr2 e2=>by
          rw[setRow_heap w B cs _ el _ g4]at e2;cases e2;rw[<- hcs];simp[nl];omega) (fun _ _ _ _=>⟨cs,el,_,g4⟩)
       refine⟨_,_,_,hr,q1,q2,?_⟩;simp only[qi];exact⟨B,cap,by simp[Kn.addM],rfl,hroom,hpos,by simp only[Kn.addM,if_true];omega⟩
     obtain⟨K',k1,k2,k3,k4⟩:=qez len (c.take (len*inf2.size)) olds ⟨B,0,none⟩ l1 hat ol (fun j v e=>by rw[js];simpa using l2 j v e) hb1 cap (by omega);have hbl:b<U.H.length:=(qAm.1 hb).1;have hd:=h.drew.setBlk (w':=w.drew) (b':=.dead) hbl hm rfl rfl rfl rfl (fun _ _=>rfl) (by simp[ye]) (by rw[hb];simp) (fun cs2 el2 fr2 e2=>h.drew.bsz b B cs2 el2 fr2 hm e2) (fun cs2 el2 fr2 e2=>⟨cs2,el2,fr2,e2⟩);have hge:=grownCap_ge w (len+n) cap e;obtain⟨K2,j1,j2,j3⟩:=qaC (e:=e) hd (l1.append n1) (by rw[qBX,hat,n2];rfl) hzs hc3 (by rw[qAq,ol,nl,qBs]) hge (by omega);refine⟨_,_,K2,k4,j1,?_,?_⟩
     . simpa[St.push] using j2
     simpa using j3
   cases hf
 cases hf
def qbf(h:WRel G w0 ro0 K U w){t u:Nat}{s x v:AV}{s' x':Value}(hs:qi K s s')(hx:qi K x x')(ty:Nat){U':St}(hf:zq (Dof P) U t u s x=some (v,U')) :
 Ran P G w0 ro0 K w (Builtin.append_ #[t,u] ty #[s',x']) v U':=by
 unfold zq at hf;split at hf
 . rename_i p hp;simp only[qAG]at hf;subst hf;exact qbg h hs hx ty hp
 split at hf
 case h_2=>cases hf
 rename_i b off len sz sz' tok;split at hf
 case h_2=>cases hf
 rename_i e eu he heu;split at hf
 case h_2=>cases hf
 rename_i j hj;simp only[qAG,qAE]at hf;obtain⟨rfl,rfl⟩:=hf;obtain⟨d1,hu,hd1⟩:=jC he (by simp);have:=QQ hd1;subst this;obtain⟨d2,hu2,hd2⟩:=jC heu (by simp);have:=QQ hd2;subst this;obtain⟨inf2,d3,z2,hi2,hu3,hz2,rfl⟩:=qD hj;refine qE3 h (v':=s') ?_ hs;have hx0:∃bx cx,x'=.slice bx 0 cx:=by
  simp only[qi]at hx;rcases hx with⟨⟨a0,rfl,_⟩,_⟩|⟨B2,off2,cap2,rfl,_⟩
  . exact⟨_,_,rfl⟩
  exact⟨_,_,rfl⟩
 obtain⟨bx,cx,rfl⟩:=hx0;have hf0:(Builtin.firstCells inf2.size 0 (.slice bx 0 cx)).run P w=.ok #[] w:=by
  cases bx<;>simp[Builtin.firstCells,loadCells,loadCellsFrom]
 simp only[qi]at hs;obtain⟨B,cap,hm,rfl,hcap,hpos,hbs⟩:=hs;simp[Builtin.append_,run_underlying hu,run_underlying hu2,sizeOf,typeInfo,hi2,Builtin.lenOf,hcap,hf0,storeCells]
def qlm(h:WRel G w0 ro0 K U w){t:Nat}{x v:AV}{x':Value}(hx:qi K x x')(ty:Nat)(hf:qtr (Dof P) t x=some v):∃v',(Builtin.cap_ #[t] ty #[x']).run P w=.ok v' w/\qi K v v':=by
 unfold qtr at hf;split at hf
 case h_2=>cases hf
 rename_i i hD;obtain⟨inf,d,z,hi,hu,_,rfl⟩:=qD hD;simp only at hf;split at hf
 . rename_i e sz hd;have:=QQ hd;subst this;cases hf;simp only[qi]at hx;rcases hx with⟨⟨a0,rfl,ha0⟩,_⟩|⟨B,off,cap,g1,g2,g3,g4⟩
   . obtain rfl:=ha0.resolve_right (by simp);exact⟨goInt 0,by simp[Builtin.cap_,run_underlying hu],by simp[qi,goInt]⟩
   simp[wg]at g4
 cases hf
def qjE(h:WRel G w0 ro0 K U w){sz m x x'}(hx:qi K x x'){src}(hf:qpj U sz m x=some src)(hm0:m≠0) :
 ∃news,qj K src news/\src.all AV.atom=true/\(Builtin.firstCells sz m x').run P w=.ok news.toArray w/\src.length=m*sz:=by
 unfold qpj at hf;split at hf
 . rename_i s rows tok;split at hf
   case isFalse=>cases hf
   rename_i hc;obtain⟨rfl,hml⟩:=hc;simp only[qAG]at hf;subst hf;simp only[qi]at hx;rcases hx with⟨_,h2,_⟩|⟨B,off,cap,rfl,hcap,hrows,_⟩
   . subst h2;simp only[qBh,Nat.le_zero]at hml;exact absurd hml hm0
   have hs:=hrows.sub 0 m;simp only[qCl,qBP,qBz]at hs;obtain⟨vs,g1,g2,g3,g4,g5⟩:=wM h hs;have hl:(rows.take m).length=m:=(by simp;omega);rw[hl]at g2;exact⟨vs,g1,g4,run_firstCells_some w s m _ _ _ vs g2 g3,by rw[<- g2,g1.length]⟩
 . rename_i b off len s;split at hf
   case isFalse=>cases hf
   rename_i hc;obtain⟨rfl,hml⟩:=hc;split at hf
   . rename_i c hb;unfold cut at hf;split at hf
     . rename_i hl;simp only[qAG]at hf;subst hf;simp only[qi]at hx;obtain⟨B,cap,hm,rfl,hcap,hpos,hbs⟩:=hx;obtain⟨vs,l1,l2⟩:=qiu.of_blk h hb hm off (m*s) hl;obtain⟨B',g1,g2,g3,⟨cs,el,g4,g5,g6,g7⟩,g8⟩:=h.blk b _ hb;have hat:((c.drop off).take (m*s)).all AV.atom=true:=by
        rw[qAv]at g5⊢;exact fun x hx=>g5 x (qBS (qBa hx))
       have hlen:((c.drop off).take (m*s)).length=m*s:=(by simp;omega);exact⟨vs,l1,hat,run_firstCells_some w s m _ _ _ vs (by have:=l1.length;omega) (fun j v e=>by rw[js];exact l2 j v e),hlen⟩
     cases hf
   cases hf
 cases hf
def qgb{x x'}(hx:qi K x x'){n}(hf:qbq x=some n):∃b cap,x'=.slice b n cap:=by
 unfold qbq at hf;split at hf
 . rename_i sz rows tok;cases hf;simp only[qi]at hx;rcases hx with⟨⟨a0,rfl,_⟩,rfl,_⟩|⟨B,off,cap,rfl,_⟩
   . exact⟨_,_,rfl⟩
   exact⟨_,_,rfl⟩
 . cases hf;simp only[qi]at hx;obtain⟨B,cap,hm,rfl,_⟩:=hx;exact⟨_,_,rfl⟩
 cases hf
def qid(h:WRel G w0 ro0 K U w){t u:Nat}{d s v:AV}{d' s':Value}(hd:qi K d d')(hs:qi K s s')(ty:Nat){U':St}(hf:kj (Dof P) U t d s=some (v,U')) :
 Ran P G w0 ro0 K w (Builtin.copy_ #[t,u] ty #[d',s']) v U':=by
 unfold kj at hf;split at hf
 case h_2=>cases hf
 rename_i i dl n hD hdl hn;obtain⟨inf,dd,z,hi,hu,_,rfl⟩:=qD hD;simp only at hf;split at hf
 case h_2=>cases hf
 rename_i e hde;have:=QQ hde;subst this;split at hf
 case h_2=>cases hf
 rename_i j hj;obtain⟨inf2,d2,z2,hi2,hu2,hz2,rfl⟩:=qD hj;obtain⟨db,dcap,rfl⟩:=qgb hd hdl;obtain⟨sb,scap,rfl⟩:=qgb hs hn;split at hf
 . rename_i h0;simp only[qAG,qAE]at hf;obtain⟨rfl,rfl⟩:=hf;refine qE3 h (v':=.int .i64 0) ?_ (by simp[qi]);have h0':Nat.min n dl=0:=h0;have hf0:(Builtin.firstCells inf2.size 0 (.slice sb n scap)).run P w=.ok #[] w:=by
    cases sb<;>simp[Builtin.firstCells,loadCells,loadCellsFrom]
   cases db<;>simp[Builtin.copy_,run_underlying hu,sizeOf,typeInfo,hi2,Builtin.lenOf,h0',hf0,storeCells,goInt]
 rename_i h0;split at hf
 case h_2=>cases hf
 rename_i b off len sz;simp only[qbq,qAG]at hdl;subst hdl;simp only at hf;split at hf
 case isFalse=>cases hf
 rename_i hsz;subst hsz;split at hf
 case h_2=>cases hf
 rename_i src c hsrc hb;split at hf
 case isFalse=>cases hf
 rename_i hroom;simp only[qAG,qAE]at hf;obtain⟨rfl,rfl⟩:=hf;obtain⟨news,n1,n2,n3,n4⟩:=qjE (P:=P) h hs hsrc h0;simp only[qi]at hd;obtain⟨B,cap,hm,hdv,hcap,hpos,hbs⟩:=hd;cases hdv;obtain⟨B',g1,g2,g3,⟨cs,el,g4,g5,g6,g7⟩,g8⟩:=h.blk b _ hb;rw[hm]at g1;cases g1;have hbl:b<U.H.length:=(qAm.1 hb).1;have hcs:cs.size=K.bs b:=h.bsz b B cs el _ hm g4;have hnl:news.length=min n len*inf2.size:=by have:=n1.length;omega
 have hone:∀u∈news,u.oneCell'=true:=n1.oneCells n2;have hst:=run_storeCells_at P B off el news 0 cs w g4 (by simp only[qBP];rw[hnl];omega) hone;simp only[qBP]at hst;have hmin:Nat.min n len=min n len:=rfl;refine⟨.int .i64 (min n len:Nat),w.setRow B (cs.toList.take off++news++cs.toList.drop (off+news.length)).toArray,K,?_,qE0 K,
  h.setBlk (B:=B) (b':=.cells (zx c off src)) (w':=w.setRow B (cs.toList.take off++news++cs.toList.drop (off+news.length)).toArray) hbl hm rfl rfl rfl (by simp[World.setRow]) (fun k hk=>setRow_other w B k _ hk) ?_ (by rw[hb];simp)
   (fun cs2 el2 fr2 e2=>by
     rw[setRow_heap w B cs _ el _ g4]at e2;cases e2;rw[<- hcs];simp[hnl];omega) (fun _ _ _ _=>⟨cs,el,_,g4⟩),by simp[qi]⟩
 . simp[Builtin.copy_,run_underlying hu,sizeOf,typeInfo,hi2,Builtin.lenOf,hmin,n3,hst,goInt]
 refine⟨_,el,setRow_heap w B cs _ el _ g4,putAt_all _ _ _ g5 n2,by simp[vX,hnl];omega,fun i a ea=>?_⟩;rw[wN _ _ _ _ (by rw[n4];omega)]at ea;simp only[qCD];split at ea
 . rename_i hin;obtain⟨v,e1,e2⟩:=n1.get _ _ ea;refine⟨v,?_,e2⟩;rw[qA4,qAw (by simp;omega),qAB (by rw[hnl];simp;omega)];simp only[qA8,qBE];rw[show min off cs.size=off by omega];exact e1
 rename_i hin;obtain⟨v,e1,e2⟩:=g7 i a ea;refine⟨v,?_,e2⟩;by_cases hlo:i<off
 . rw[qA4,qAB (by simp;omega),qBo,if_pos hlo];simpa using e1
 rw[qA4,qAw (by simp;omega),qAw (by rw[hnl];simp;omega),qBe];simp only[qA8,qBE];rw[n4]at hin;rw[hnl,show off+min n len*inf2.size+(i-min off cs.size-min n len*inf2.size)=i by omega];simpa using e1
def qj4(hw:WRel G w0 ro0 K U w){t l c l' c'}(hl:qi K l l')(hc:qi K c c'){mu L}(hf:mkX (Dof P) mu U t l c=some L) :
 ∃v U',(v,U')∈L/\Ran P G w0 ro0 K w (Instr.makeSlice t l' c') v U':=by
 unfold mkX at hf;split at hf
 case h_2=>cases hf
 rename_i k1 k2;split at hf
 case h_2=>cases hf
 rename_i sz tok U' hms;cases hf;refine⟨_,_,qA2.2 rfl,?_⟩;obtain⟨v',w',K',r1,r2,r3,r4⟩:=v8 (P:=P) hw hl hc hms;simp only[qi]at hl hc;subst hl hc;have hv:(∃b,v'=.slice b 0 0/\b.isSome=true)/\¬tok.plain:=by
  unfold qI at hms;split at hms
  case h_2=>cases hms
  rename_i i ln cn hD hln hcn;obtain⟨inf,d,z,hi,hu,_,rfl⟩:=qD hD;cases hln;cases hcn;simp only at hms;split at hms
  case h_2=>cases hms
  rename_i e hd;have hd':=QQ hd;subst hd';split at hms
  case h_2=>cases hms
  rename_i j hj;obtain⟨inf2,d2,z2,hi2,hu2,hz2,rfl⟩:=qD hj;simp only[Instr.makeSlice,Sem.run_bind,run_underlying hu,Result.andThen_ok]at r1;have hwz:IntKind.i64.wrap 0=0:=by decide
  simp[asInt,asIntOf,typeInfo,hi2,hwz,askRoom,sizeOf,zeroValue,hz2,newRow,roomBytes]at r1;refine⟨⟨_,r1.1.symm,rfl⟩,?_⟩;split at hms
  . simp at hms;rw[<- hms.1.2];simp[Tok.plain]
  cases hms
 obtain⟨⟨b,rfl,hb⟩,htk⟩:=hv;refine⟨_,_,_,r1,r2,r3,?_⟩;obtain⟨a,rfl⟩:=qDd.1 hb;simp only[qi]at r4⊢;rcases r4 with⟨⟨a0,h1,ha0⟩,h2,h3⟩|⟨B,off,cap,h1,h2,h3,h4⟩
 . exact absurd h3 htk
 simp at h1;exact .inr ⟨B,off,0,by simp[h1],by simp,h3,by simp[wg]⟩
def Vb(hw:WRel G w0 ro0 K U w)(he:ERel K N env a){mu}(o){l}(h:qb2 (Dof P) G mu env U o.op=some l) :
 ∃v U',(v,U')∈l/\Did P G w0 ro0 K w (execOp a.eval o) v U':=by
 have ex:=Z0 hw he;obtain⟨dst,op,type,pos,after,guard⟩:=o;simp only at h;cases op<;>simp only[qb2]at h<;>try(cases h;done)
 case makeSlice t x y=>
  obtain⟨v,U',h1,h2⟩:=qj4 (P:=P) hw (ex x) (ex y) h;exact⟨v,U',h1,qE4 h2⟩
 case binOp o t x y u=>
  cases o<;>simp only at h<;>try(cases h;done)
  . obtain⟨v,U',h1,rfl,h2⟩:=JZ (P:=P) hw (ex x) (ex y) h x y;exact⟨v,U',h1,qE5 hw h2⟩
  obtain⟨v,U',h1,rfl,h2⟩:=JZ (P:=P) hw (ex x) (ex y) h x y;exact⟨v,U',h1,qE5 hw h2⟩
 case call c=>
  obtain⟨callee,args,ts⟩:=c;cases callee<;>simp only at h<;>try(cases h;done)
  rename_i b;split at h
  . rename_i t u s x hts hargs;cases mu
    . cases h
    simp only at h;obtain⟨p,hp,rfl⟩:=qAu.1 h;obtain⟨v,U'⟩:=p;obtain⟨v',w',K',r1,r2,r3,r4⟩:=qbf hw (ex s) (ex x) type hp;have eargs:args.map a.eval = #[a.eval s,a.eval x]:=(by apply Array.ext';simp[hargs]);have ets:ts = #[t,u]:=(by apply Array.ext';simpa using hts);exact⟨v,U',qA2.2 rfl,v',w',K',.inl (by simp[execOp,resolve,invoke,builtin,eargs,ets,r1]),r2,r3,r4⟩
  . rename_i t x hts hargs;obtain⟨v,hp,rfl⟩:=qAu.1 h;obtain⟨v',r1,r2⟩:=qlm hw (ex x) type hp;have eargs:args.map a.eval = #[a.eval x]:=(by apply Array.ext';simp[hargs]);have ets:ts = #[t]:=(by apply Array.ext';simpa using hts);exact⟨v,U,qA2.2 rfl,v',w,K,.inl (by simp[execOp,resolve,invoke,builtin,eargs,ets,r1]),qE0 K,hw,r2⟩
  . rename_i t u d s hts hargs;obtain⟨p,hp,rfl⟩:=qAu.1 h;obtain⟨v,U'⟩:=p;obtain⟨v',w',K',r1,r2,r3,r4⟩:=qid (u:=u) hw (ex d) (ex s) type hp;have eargs:args.map a.eval = #[a.eval d,a.eval s]:=(by apply Array.ext';simp[hargs]);have ets:ts = #[t,u]:=(by apply Array.ext';simpa using hts);exact⟨v,U',qA2.2 rfl,v',w',K',.inl (by simp[execOp,resolve,invoke,builtin,eargs,ets,r1]),r2,r3,r4⟩
  cases h
end
def jt(ops:Array Oper)(env:Env)(o:Oper):Option Bool :=
 match o.guard with
 |none=>some true
 | some (j,b)=>match(ops[j]?).bind (·.dst) with
  | some t=>match env t with
   |.bool c=>some (c==b)
   |.tup []=>some false
   |_=>none
  |none=>some false
def yY(first args cap:List AV):List AV:=first++args++cap
def OpA(P:Program)(G:Nat->AV)(o:Oper)(env:Env)(U:St)(v:AV)(U':St):Prop :=
 sem (Dof P) G env U o.op=some (v,U') \/
 ∃f args ts g first cap,o.op=.call { callee:=.value f,args:=args,argTypes:=ts }/\ev G env f=.fn g first cap/\QW P G g (yY first (qbo G env args.toList) cap) U v/\U'=U
def wF(P:Program)(G:Nat->AV)(ops:Array Oper)(o:Oper)(env:Env)(U:St)(v:AV)(U':St):Prop :=
 (jt ops env o=some false/\v=.tup []/\U'=U)\/(jt ops env o=some true/\OpA P G o env U v U')
section
variable {P:Program}{G:Nat->AV}{N:Nat}{env:Env}{U U':St}{w0:World}{ro0:Nat->Nat->Option Value}{K:Kn}{a:Act}{w:World}{ops:Array Oper}{o:Oper}{v:AV}
def yM(he:ERel K N env a){b}(hj:∀j,o.guard=some (j,true)\/o.guard=some (j,false)->∀t,(ops[j]?).bind (·.dst)=some t->t<N)(h:jt ops env o=some b) :
 Region.wanted o (yielded ops a.tmps)=b:=by
 unfold jt at h;unfold Region.wanted;split at h
 . rename_i hg;simp at h;subst h;simp[hg]
 rename_i j c hg;simp only[hg];split at h
 . rename_i t ht;have htN:=hj j (by cases c<;>simp[hg]) t ht;have hv:=he.val t;have hsz:t<a.tmps.size:=(by rw[he.size];exact htN);simp only[yielded,ht,Option.bind_some];split at h
   . rename_i x hx;simp at h;subst h;rw[hx]at hv;simp only[qi]at hv;have:a.tmps[t]?=some (.bool x):=by
      rw[qDX hsz];simp[hsz]at hv;rw[hv]
     simp only[this];cases x<;>cases c<;>rfl
   . rename_i hx;simp at h;subst h;rw[hx]at hv;simp only[qi,qj]at hv;obtain⟨vs,hv1,hv2⟩:=hv;have:a.tmps[t]?=some (.tuple vs):=by
      rw[qDX hsz];simp[hsz]at hv1;rw[hv1]
     simp only[this];rfl
   cases h
 rename_i ht;simp at h;subst h;simp[yielded,ht]
def Wd(hw:WRel G w0 ro0 K U w)(he:ERel K N env a){f args ts g first cap}(ho:o.op=.call { callee:=.value f,args:=args,argTypes:=ts })
 (hf:ev G env f=.fn g first cap) (hb:bodied P g=true) :
 ∃vs:Array Value,(execOp a.eval o).run P w=.ok (.enter g vs) w/\qj K (yY first (qbo G env args.toList) cap) vs.toList:=by
 have hv:=Z0 hw he f;rw[hf]at hv;simp only[qi]at hv;obtain⟨va,vb,e1,h1,h2⟩:=hv;refine⟨va++args.map a.eval++vb,?_,?_⟩
 . cases hg:P.funcs[g]? with
   |none=>simp[bodied,hg]at hb
   | some fn=>
    simp[bodied,hg]at hb;obtain⟨b1,b2⟩:=hb;simp[execOp,ho,resolve,e1,Deferred.ofValue,invoke,callFunc,hg,b2,show ¬fn.body=none by intro e;simp[e]at b1]
 have:=QB hw he args.toList;simp only[yY,Array.toList_append,Array.toList_map];exact(h1.append this).append h2
def Act.put_defers'{a:Act}{d:Option Tmp}{v}:(a.put d v).defers=a.defers:=by
 unfold Act.put;split<;>rfl
def qEB:=@Act.put_defers'
def qrv(hw:WRel G w0 ro0 K U w)(he:ERel K N env a)(hd:∀d,o.dst=some d->d<N)(h:OpA P G o env U v U'){next Q}
 (hn:∀K' a' w',K.le K'->WRel G w0 ro0 K' U' w'->ERel K' N (upd env o.dst v) a'->a'.defers=a.defers->next a' w'):o.wp P a w next Q:=by
 rcases h with h|⟨f,args,ts,g,first,cap,ho,hf,hp,rfl⟩
 . obtain⟨v',w',K',hr,h1,h2,h3⟩:=Kd hw he o h;unfold Oper.wp;rcases hr with hr|⟨hr,rfl⟩
   . rw[hr];exact hn K' _ w' h1 h2 ((he.mono h1).put hd h3) qEB
   rw[hr];exact hn K' _ w' h1 h2 ((he.mono h1).put hd h3) qEB
 obtain⟨vs,hr,hvs⟩:=Wd hw he ho hf hp.bodied;unfold Oper.wp;rw[hr,Oper.upon_enter];refine(qum hw hp hvs).mono ?_;rintro e w' ⟨v',K',rfl,h1,h2,h3⟩;exact hn K' _ w' h1 h2 ((he.mono h1).put hd h3) qEB
def vT(N:Nat)(ops:Array Oper):Bool:=ops.toList.all fun o=>match o.dst with|some d=>decide (d<N)|none=>true
def ZB{N ops}(h:vT N ops=true){o}(ho:o∈ops.toList):∀d,o.dst=some d->d<N:=by
 intro d hd;have:=qAv.1 h o ho;simpa[hd] using this
def Za{N ops}(h:vT N ops=true)(o:Oper):∀j,o.guard=some (j,true)\/o.guard=some (j,false)->∀t,(ops[j]?).bind (·.dst)=some t->t<N:=by
 intro j _ t ht;obtain⟨o',h1,h2⟩:=qBW.1 ht;exact ZB h (qAn (by simpa using h1)) t h2
def JA(args:List AV):Env:=fun t=>args.getD t (.tup [])
def qfC(D:Nat->Option TI)(rs:List ResultVar)(env:Env)(U:St):Option (List AV) :=
 match rs with
 |[]=>some []
 |.tmp t::r=>(qfC D r env U).map (env t::·)
 | .cell x t::r=>match kx D U t (env x),qfC D r env U with
  |some v,some l=>some (v::l)
  |_,_=>none
def W5:List AV->AV
 |[v]=>v
 |l=>.tup l
def qca(a:Act):ResultVar->Sem Value
 |.tmp t=>pure (a.tmps.getD t undef)
 |.cell x t=>do loadVar t (<- asAddr (a.tmps.getD x undef))
def Zc(hw:WRel G w0 ro0 K U w)(he:ERel K N env a):∀(rs:List ResultVar) (l),qfC (Dof P) rs env U=some l ->
 ∃vs:List Value,(rs.mapM (qca a)).run P w=.ok vs w/\qj K l vs
 |[],l,h=>by simp[qfC]at h;subst h;exact⟨[],by simp,by simp[qj]⟩
 | .tmp t::r,l,h=>by
  simp only[qfC]at h;obtain⟨l',hl',rfl⟩:=qAu.1 h;obtain⟨vs,h1,h2⟩:=Zc hw he r l' hl';refine⟨a.tmps.getD t undef::vs,?_,by simp only[qj];exact⟨_,_,rfl,he.val t,h2⟩⟩;rw[qEl,Sem.run_bind];simp only[qca,pure,Sem.run,Result.andThen_ok,Sem.run_bind,h1]
 | .cell x t::r,l,h=>by
  simp only[qfC]at h;split at h
  . rename_i v l' hv hl';simp only[qAG]at h;subst h;obtain⟨vs,h1,h2⟩:=Zc hw he r l' hl';obtain⟨v',r1,r2⟩:=qcA hw (he.val x) hv;have hx:=he.val x;have hptr:∃ad,a.tmps.getD x undef=.pointer (some ad):=by
     cases hxx:env x<;>rw[hxx]at hx hv<;>simp only[qi]at hx<;>first
      |(obtain⟨B,_,e⟩:=hx;exact⟨_,e⟩)
      |(obtain⟨B,o,e,_⟩:=hx;exact⟨_,e⟩)
      |(unfold kx at hv;split at hv<;>simp_all)
    obtain⟨ad,had⟩:=hptr;refine⟨v'::vs,?_,by simp only[qj];exact⟨_,_,rfl,r2,h2⟩⟩;rw[had]at r1;simp only[Instr.loadAt,Instr.sureAddr,pure,Sem.run_bind,Sem.run,Result.andThen_ok]at r1;rw[qEl,Sem.run_bind];simp only[qca,had,asAddr,pure,Sem.run,Result.andThen_ok,Sem.run_bind,r1,h1]
  cases h
def Kf(hw:WRel G w0 ro0 K U w)(he:ERel K N env a){fn l}(h:qfC (Dof P) fn.results.toList env U=some l) :
 ∃v,(results fn a.tmps).run P w=.ok v w/\qi K (W5 l) v:=by
 obtain⟨vs,h1,h2⟩:=Zc hw he _ _ h;have hrun:(fn.results.mapM (qca a)).run P w=.ok vs.toArray w:=by
  rw[Array.mapM_eq_mapM_toList];simp[h1]
 have hres:results fn a.tmps=(fn.results.mapM (qca a)).bind fun vs=>Sem.pure (if h:vs.size=1 then vs[0] else .tuple vs):=by
  unfold results;congr 2
 have hlen:=h2.length
 cases l with
 | nil=>
  simp only[qj]at h2;subst h2;refine⟨.tuple #[],?_,by simp only[W5,qi];exact⟨#[],rfl,by simp[qj]⟩⟩;rw[hres,Sem.run_bind',hrun];rfl
 | cons x r=>
  cases r with
  | nil=>
   simp only[qj]at h2;obtain⟨v,vr,rfl,g1,rfl⟩:=h2;refine⟨v,?_,g1⟩;rw[hres,Sem.run_bind',hrun];rfl
  | cons y r=>
   refine⟨.tuple vs.toArray,?_,by simp only[W5,qi];exact⟨_,rfl,by simpa using h2⟩⟩;rw[hres,Sem.run_bind',hrun];have:¬vs.toArray.size=1:=by simp at hlen⊢;omega
   simp only[Result.andThen_ok,dif_neg this,Sem.run]
def ERel.enter{args vs n}(hvs:qj K args vs.toList)(hn:args.length<=n) :
 ERel K n (JA args) { tmps:=vs++Array.replicate (n-vs.size) undef,defers:=[] }:=by
 have hlen:=hvs.length;simp only[qBE]at hlen;refine⟨by simp;omega,fun t=>?_⟩;simp only[JA];by_cases ht:t<vs.size
 . have h1:args[t]?=some args[t]:=qAo (by omega);obtain⟨v,e1,e2⟩:=hvs.get t _ h1;simp only[qAx,h1,qD2];rw[qDL,qC3 ht,show vs[t]?=some v by simpa using e1];exact e2
 have h1:args[t]?=none:=qAU (by omega);simp only[qAx,h1,Option.getD_none];rw[qDL,Array.getElem?_append_right (by omega)];have:(Array.replicate (n-vs.size) undef)[t-vs.size]?.getD undef=undef:=by
  rw[Array.getElem?_replicate];split<;>rfl
 rw[this];exact⟨#[],rfl,by simp[qj]⟩
def Qa{u:FrameMode}(hu:u≠.run){fn R tmps f0}:∀(Ds:List Nat) (K) (w),WRel G w0 ro0 K U w->Ds.Nodup->(∀D∈Ds,K.fx D=some (.deferred (some []))/\f0 D=none) ->
 (∀B o,f0 B=some o->K.fx B=some o) ->
 (∀(w'),WRel G w0 ro0 (K.withFx f0) U w'->LeavesIn Fence.wide 0 P fn tmps R [] u w')->LeavesInM Fence.wide 0 P fn tmps R (Ds.map qwi) u w
 |[],K,w,hw,_,_,hf,h=>h w (hw.unfix hf)
 | D::Ds,K,w,hw,hn,hD,hf,h=>by
  obtain⟨d1,d2⟩:=hD D (by simp);obtain⟨b1,_⟩:=hw.fx D _ d1;have hw1:=hw.refix d1 (by intros;intro e;cases e) (.deferred none);refine⟨hu,.inl ⟨D,_,rfl,run_takeDeferred b1,?_⟩⟩;refine Qa hu Ds _ _ hw1 (qCi.1 hn).2 (fun D' hD'=>?_) (fun B o e=>?_) h
  . have hne:¬D'=D:=fun e=>(qCi.1 hn).1 (e▸hD')
    simp only[Kn.withFx,if_neg hne];exact hD D' (by simp[hD'])
  have hne:¬B=D:=fun e'=>by subst e';rw[d2]at e;cases e
  simp only[Kn.withFx,if_neg hne];exact hf B o e
def Ya{G:Glo}{f:FuncId}{fn:Func}{c:Code}{vs:Array Value}{R:Ending->World->Prop}{Q:Exit->Env->St->Prop}(hf:P.funcs[f]?=some fn)(hb:fn.body=some c)
 (h:c.wp P (JO G w0 ro0 K fn.ntmps [] Q) { tmps:=vs++Array.replicate (fn.ntmps-vs.size) undef,defers:=[] } w)
 (hR:∀e K' env U a w',K.le K'->WRel G w0 ro0 K' U w'->ERel K' fn.ntmps env a->Q e env U->(e=.ret\/e=.normal)/\∃v,(results fn a.tmps).run P w'=.ok v w'/\R (.returned v) w')
 (hX:∀c K' U w',K.le K'->WRel G w0 ro0 K' U w'->G.X c U->R (.panicked c) w'):Calls P f vs w R:=by
 refine(callsIn_wide (n:=0)).1 (callsIn_of_wp_marks hf hb trivial (wpIn_mono (wpIn_wide.2 h) ?_));rintro e a w' (⟨K',env,U',h1,h2,h3,⟨Ds,n1,n2,n3⟩,hq⟩|⟨c,K',U',rfl,h1,h2,⟨Ds,n1,n2,n3⟩,hq⟩)
 . have he:=(hR e K' env U' a w' h1 h2 h3 hq).1;have key:LeavesInM Fence.wide 0 P fn a.tmps R a.defers .returning w':=by
    rw[n2,qA6];refine Qa (by simp) (G:=G) (w0:=w0) (ro0:=ro0) (U:=U') (f0:=K.fx) Ds K' w' h2 n1 (fun D hD=>⟨(n3 D hD).2,(n3 D hD).1⟩) h1.fx fun w'' hw''=>?_
    exact(hR e _ env U' a w'' (qEV (K:=K) (f:=K.fx) h1 fun _ _ e=>e) hw'' (h3.refx K.fx) hq).2
   rcases he with rfl|rfl
   . exact key
   exact key
 show LeavesInM Fence.wide 0 P fn a.tmps R a.defers (.panicking c) w';rw[n2,qA6];refine Qa (by simp) (G:=G) (w0:=w0) (ro0:=ro0) (U:=U') (f0:=K.fx) Ds K' w' h2 n1 (fun D hD=>⟨(n3 D hD).2,(n3 D hD).1⟩) h1.fx fun w'' hw''=>?_
 exact hX c _ U' w'' (qEV (K:=K) (f:=K.fx) h1 fun _ _ e=>e) hw'' hq
def Pure.of_body {G} (hX : G.NoX) {f fn c args r} (hf : P.funcs[f]? = some fn) (hb : fn.body = some c) (hnm : fn.name ≠ "runtime.NumGoroutine") (hn : args.length ≤ fn.ntmps)
 (h:AWp P G fn.ntmps c (JA args) ⟨[],[]⟩ (fun e env U=>(e=.ret\/e=.normal)/\∃l,qfC (Dof P) fn.results.toList env U=some l/\((qO (fin U.H (W5 l))=true/\Leq (fin U.H (W5 l)) r)\/(qO (frz U.H 8 (W5 l))=true/\Leq (frz U.H 8 (W5 l)) r)))):Pure P G f args r:=by
 refine⟨by simp[bodied,hf,hb,hnm],?_⟩;intro w0 ro vs hg hro hvs;have hw:WRel G w0 ro (K0 ro) ⟨[],[]⟩ w0:=⟨Below.refl _ _,hg,hro,fun b o v e _=>e,by simp,fun _ _ _ e=>by simp[K0]at e,fun _ _ e=>by simp[K0]at e,by simp,fun _ _ e=>by simp[K0]at e,
  fun _ _ _ _ e=>by simp[K0]at e,rfl,fun _ _ _ _ _ e=>by simp[K0]at e,fun _ _ e=>by simp[K0]at e,fun _ _ e=>by simp[K0]at e⟩
 have he:=ERel.enter hvs hn;refine Ya hf hb (h w0 ro (K0 ro) _ w0 hw he) ?_ fun c _ U _ _ _ hc=>(hX c U hc).elim
 rintro e K' env U a w h1 h2 h3 ⟨hend,l,hl,hfin⟩;refine⟨hend,?_⟩;obtain⟨v,hr,hv⟩:=Kf h2 h3 hl;have hv3:qi (K0 (vW w0 w K'.ro)) r v:=by
  rcases hfin with⟨hno,hfin⟩|⟨hno,hfin⟩
  . exact qEP _ _ hfin (qi.toK0 _ hno (qsm h2 hv))
  exact qEP _ _ hfin (qkB h2 8 hv)
 obtain⟨q1,q2⟩:=h2.end_ro;exact⟨v,hr,v,vW w0 w K'.ro,rfl,h2.below,fun b o v e=>Yy _ _ _ _ _ _ (h1.ro b o v e),q1,q2,hv3⟩
def qg.of_body {G f fn c args Q} (hf : P.funcs[f]? = some fn) (hb : fn.body = some c) (hnm : fn.name ≠ "runtime.NumGoroutine") (hn : args.length ≤ fn.ntmps)
 (h:AWp P G fn.ntmps c (JA args) U (fun e env U'=>(e=.ret\/e=.normal)/\∃l,qfC (Dof P) fn.results.toList env U'=some l/\Q (W5 l) U')):qg P G f args U Q:=by
 refine⟨by simp[bodied,hf,hb,hnm],?_⟩;intro w0 ro0 K w vs hw hvs;refine Ya hf hb (h w0 ro0 K _ w hw (ERel.enter hvs hn)) ?_ fun c K' U' w' h1 h2 hc=>.inr ⟨c,U',K',rfl,h1,h2,hc⟩
 rintro e K' env U' a w h1 h2 h3 ⟨hend,l,hl,hq⟩;obtain⟨v,hr,hv⟩:=Kf h2 h3 hl;exact⟨hend,v,hr,.inl ⟨v,W5 l,U',K',rfl,h1,h2,hv,hq⟩⟩
end
def qa(P:Program)(G:Glo)(d:Bool)(g:FuncId)(args:List AV)(U:St)(Q:AV->St->Prop):Prop :=
 match d with
 |true=>∃r,QW P G g args U r/\Q r U
 |false=>qg P G g args U Q
def qej{α:Type}(d:Bool)(l:Option α):Option α:=match d with
 |true=>none
 |false=>l
def vcX(l:Option (List (AV×St)))(s:Option (AV×St))(Q:AV->St->Prop):Prop :=
 match l with
 |some l=>∀v U',(v,U')∈l->Q v U'
 | none=>match s with
  |some (v,U')=>Q v U'
  |none=>False
def jN(P:Program)(G:Glo)(mu d:Bool)(op:Op)(env:Env)(U:St)(Q:AV->St->Prop):Prop :=
 match op with
 | .call { callee:=.value f,args:=args,argTypes:=_ }=>match ev G env f with
  |.fn g first cap=>qa P G d g (yY first (qbo G env args.toList) cap) U Q
  |_=>False
 |op=>vcX (qej d (qb2 (Dof P) G mu env U op)) (sem (Dof P) G env U op) Q
section
variable {P:Program}{G:Glo}{N:Nat}{env:Env}{U U':St}{w0:World}{ro0:Nat->Nat->Option Value}{K:Kn}{a:Act}{w:World}{ops:Array Oper}{o:Oper}{v:AV}{mu:Bool}
def qjM(hw:WRel G w0 ro0 K U w)(he:ERel K N env a)(hd:∀d,o.dst=some d->d<N){R}(h:jN P G mu false o.op env U R){next Q}
 (hn:∀v U' K' a' w',R v U'->K.le K'->WRel G w0 ro0 K' U' w'->ERel K' N (upd env o.dst v) a'->a'.defers=a.defers->next a' w')
 (hp:∀c U' K' w',G.X c U'->K.le K'->WRel G w0 ro0 K' U' w'->Q (.panic c) a w'):o.wp P a w next Q:=by
 have did:∀v U',R v U'->Did P G w0 ro0 K w (execOp a.eval o) v U'->o.wp P a w next Q:=by
  intro v U' hr hdid;obtain⟨v',w',K',hrun,h1,h2,h3⟩:=hdid;unfold Oper.wp;rcases hrun with hrun|⟨hrun,rfl⟩
  . rw[hrun];exact hn v U' K' _ w' hr h1 h2 ((he.mono h1).put hd h3) qEB
  rw[hrun];exact hn v U' K' _ w' hr h1 h2 ((he.mono h1).put hd h3) qEB
 unfold jN at h;split at h
 . rename_i f args ts hop;split at h
   . rename_i g first cap hf
     have hac:=h;obtain⟨vs,hr,hvs⟩:=Wd hw he hop hf hac.1;unfold Oper.wp;rw[hr,Oper.upon_enter];refine(hac.2 w0 ro0 K w vs hw hvs).mono ?_;rintro e w' (⟨v',v,U',K',rfl,h1,h2,h3,h4⟩|⟨c,U',K',rfl,h1,h2,h3⟩)
     . exact hn v U' K' _ w' h4 h1 h2 ((he.mono h1).put hd h3) qEB
     exact hp c U' K' w' h3 h1 h2
   exact h.elim
 simp only[vcX,qej]at h;split at h
 . rename_i l hl;obtain⟨v,U',h1,h2⟩:=Vb hw he o hl;exact did v U' (h v U' h1) h2
 split at h
 . rename_i v U' hs;exact did v U' h (Kd hw he o hs)
 exact h.elim
def qg.imp{f args Q Q'}(h:qg P G f args U Q)(hq:∀v U,Q v U->Q' v U):qg P G f args U Q' :=
 ⟨h.1,fun w0 ro0 K w vs hw hvs=>(h.2 w0 ro0 K w vs hw hvs).mono fun e w' h=>h.imp (fun⟨v',v,U',K',h1,h2,h3,h4,h5⟩=>⟨v',v,U',K',h1,h2,h3,h4,hq _ _ h5⟩) id⟩
def qEX:=@qg.imp
def vcX.imp{l s R R'}(h:vcX l s R)(hr:∀v U,R v U->R' v U):vcX l s R':=by
 unfold vcX at h⊢;split at h
 . exact fun v U' hm=>hr _ _ (h v U' hm)
 split at h
 . exact hr _ _ h
 exact h.elim
def jN.plain{d op}(hop:¬∃f args ts,op=.call { callee:=.value f,args:=args,argTypes:=ts })(R) :
 jN P G mu d op env U R=vcX (qej d (qb2 (Dof P) G mu env U op)) (sem (Dof P) G env U op) R:=by
 unfold jN;split
 . exact absurd ⟨_,_,_,rfl⟩ hop
 rfl
def jN.imp{d op R R'}(h:jN P G mu d op env U R)(hr:∀v U,R v U->R' v U):jN P G mu d op env U R':=by
 by_cases hop:∃f args ts,op=.call { callee:=.value f,args:=args,argTypes:=ts }
 . obtain⟨f,args,ts,rfl⟩:=hop;simp only[jN]at h⊢;split at h
   . rename_i g first cap hf
     cases d
     . exact qEX h hr
     obtain⟨r,h1,h2⟩:=h;exact⟨r,h1,hr _ _ h2⟩
   exact h.elim
 rw[jN.plain hop]at h⊢;exact h.imp hr
variable {G:Nat->AV}
def qny:∀{a b:AV},Leq a b->b.atom=true->a.atom=true:=by
 intro a b h hb;cases b<;>simp only[AV.atom]at hb<;>first|(cases hb;done)|skip
 all_goals(cases a<;>simp only[Leq]at h<;>first|(cases h;done)|rfl|(exact h.elim)|skip)
def qcE:∀{l m:List AV},zn l m->m.all AV.atom=true->l.all AV.atom=true
 |[],[],_,_=>rfl
 | a::r,b::s,h,hm=>by
  simp only[zn,qBH,qAr]at h hm⊢;exact⟨qny h.1 hm.1,qcE h.2 hm.2⟩
 |[],_::_,h,_=>by simp[zn]at h
 |_::_,[],h,_=>by simp[zn]at h
def zn.of_map{f g}(h:∀a,Leq (f a) (g a)):∀l:List AV,zn (l.map f) (l.map g)
 |[]=>by simp[zn]
 |a::r=>by simp only[qAz,zn];exact⟨h a,zn.of_map h r⟩
def qEY:=@zn.of_map
def WE.of_map{f g}(h:∀a,Leq (f a) (g a)):∀l:List AV,WE (l.map f) (l.map g)
 |[]=>by simp[WE]
 |a::r=>by simp only[qAz,WE];exact⟨h a,WE.of_map h r⟩
def yh.of_map{f g}(h:∀a,Leq (f a) (g a)):∀l:List (List AV),(l.map (·.map g)).all (·.all AV.atom)=true->yh (l.map (·.map f)) (l.map (·.map g))
 |[],_=>by simp[yh]
 | a::r,ha=>by
  simp only[qAz,qBH,qAr,yh]at ha⊢;exact⟨.inr ⟨qEY h a,ha.1⟩,yh.of_map h r ha.2⟩
def Kj{f g}(h:∀a,Leq (f a) (g a)):∀l:List (List AV),(l.map (·.map g)).all (·.all AV.atom)=true->(l.map (·.map f)).all (·.all AV.atom)=true
 |[],_=>rfl
 | a::r,ha=>by
  simp only[qAz,qBH,qAr]at ha⊢;exact⟨qcE (qEY h a) ha.1,Kj h r ha.2⟩
def Leq.any(a):Leq a .any:=by cases a<;>simp[Leq]
def qgo{H H':List Blk}(hH:∀(b:Nat) (x:Blk),H[b]?=some x->H'[b]?=some x):∀(n:Nat) (a:AV),Leq (frz H' n a) (frz H n a)
 |0,a=>by simp only[frz];exact qEQ _
 | n+1,a=>by
  have ih:=qgo hH n;by_cases hn:qO a=true
  . simp only[frz,hn,if_true];exact qEQ _
  cases a with
  | ptr b off=>
   simp only[frz,hn,qAP,if_false]
   cases hb:H[b]? with
   |none=>exact Leq.any _
   | some x=>
    rw[hH b x hb]
    cases x with
    |cells c=>simp only[Leq];exact WE.of_map ih _
    |_=>exact Leq.any _
  | ms b off len sz=>
   simp only[frz,hn,qAP,if_false]
   cases hb:H[b]? with
   |none=>exact Leq.any _
   | some x=>
    rw[hH b x hb]
    cases x with
    | cells c=>
     simp only;by_cases hc:off+len*sz<=c.length/\((vH sz len (c.drop off)).map (·.map (frz H n))).all (·.all AV.atom)=true
     . rw[if_pos hc,if_pos ⟨hc.1,Kj ih _ hc.2⟩];simp only[Leq];exact .inr ⟨trivial,yh.of_map ih _ hc.2,.inl trivial⟩
     rw[if_neg hc];exact Leq.any _
    |_=>exact Leq.any _
  |rptr c=>simp only[frz,hn,qAP,if_false,Leq];exact WE.of_map ih _
  | sl sz rows tok=>
   simp only[frz,hn,qAP,if_false];by_cases hc:(rows.map (·.map (frz H n))).all (·.all AV.atom)=true
   . rw[if_pos hc,if_pos (Kj ih _ hc)];simp only[Leq];exact .inr ⟨trivial,yh.of_map ih _ hc,.inl trivial⟩
   rw[if_neg hc];exact Leq.any _
  |fn f x y=>simp only[frz,hn,qAP,if_false,Leq];exact⟨trivial,qEY ih _,qEY ih _⟩
  |agg c=>simp only[frz,hn,qAP,if_false,Leq];exact qEY ih _
  |tup c=>simp only[frz,hn,qAP,if_false,Leq];exact qEY ih _
  |_=>simp only[frz,hn,qAP,if_false];exact qEQ _
def Pure.less'{f args args' r}(h:Pure P G f args' r)(ha:zn args args'):Pure P G f args r :=
 ⟨h.1,fun w0 ro vs hg hro hvs=>h.2 w0 ro vs hg hro (zn.rel _ _ ha hvs)⟩
def QW.mono{g args r}{U τ:St}(h:QW P G g args U r)(hH:∀(b:Nat) (x:Blk),U.H[b]?=some x->τ.H[b]?=some x):QW P G g args τ r:=by
 rcases h with h|⟨h1,h2⟩
 . exact .inl h
 exact .inr ⟨h1,h2.less' (qEY (qgo hH 8) args)⟩
end
def qlc:Op->Nat
 |.move _|.assign _|.pick ..|.nilCheck _|.binOp ..|.unOp ..|.convert ..|.fieldAddr ..|.field ..|.indexAddr ..|.index ..|.extract ..|.slice ..|.makeFunc ..|.build ..|.buildSlice .. =>0
 |.load ..|.lookup .. =>1
 |.call { callee:=.builtin b,.. }=>match b with|.len=>1|.min=>0|.max=>0|_=>2
 |.call { callee:=.value _,.. }=>1
 |_=>2
section
variable {P:Program}{G:Nat->AV}{N:Nat}{env env':Env}{U U':St}{ops:Array Oper}{o:Oper}{v:AV}
def qyu(h:qlc o.op=0)(hs:wF P G ops o env U v U'):U'=U/\∀τ,wF P G ops o env τ v τ:=by
 rcases hs with⟨h1,rfl,rfl⟩|⟨h1,h2⟩
 . exact⟨rfl,fun τ=>.inl ⟨h1,rfl,rfl⟩⟩
 rcases h2 with h2|⟨f,args,ts,g,first,cap,ho,_⟩
 . have key:U'=U/\∀τ,sem (Dof P) G env τ o.op=some (v,τ):=by
    obtain⟨dst,op,ty,pos,after,guard⟩:=o;simp only at h h2⊢;cases op<;>simp only[qlc]at h<;>try(cases h;done)
    case call c=>
     obtain⟨callee,args,ts⟩:=c
     cases callee with
     | builtin b=>
      simp only at h;split at h
      . cases h
      . simp only[sem,zI]at h2⊢;split at h2<;>first
         | (obtain⟨u,hu,he⟩:=qAu.1 h2
            simp only[qAE]at he;obtain⟨rfl,rfl⟩:=he;exact⟨rfl,fun τ=>by simp_all⟩)
         |(rename_i hb _ _;cases hb;done)
         |(cases h2;done)
         |skip
        all_goals simp_all
      . simp only[sem,zI]at h2⊢;split at h2<;>first
         | (obtain⟨u,hu,he⟩:=qAu.1 h2
            simp only[qAE]at he;obtain⟨rfl,rfl⟩:=he;exact⟨rfl,fun τ=>by simp_all⟩)
         |(rename_i hb _ _;cases hb;done)
         |(cases h2;done)
         |skip
        all_goals simp_all
      cases h
     |value f=>simp at h
     |invoke r m=>simp at h
    case makeFunc fn a b=>
     cases fn<;>simp only[sem]at h2⊢<;>first|(cases h2;done)|skip
     cases h2;exact⟨rfl,fun τ=>rfl⟩
    case pick c a b=>
     simp only[sem]at h2⊢;split at h2
     . cases h2;exact⟨rfl,fun τ=>by simp_all⟩
     cases h2
    case nilCheck x=>
     simp only[sem]at h2⊢;split at h2
     . cases h2;exact⟨rfl,fun τ=>by simp_all⟩
     . cases h2;exact⟨rfl,fun τ=>by simp_all⟩
     cases h2
    case slice t x lo hi mx=>
     simp only[sem]at h2⊢;split at h2
     . split at h2
       . obtain⟨u,hu,he⟩:=qAu.1 h2;simp only[qAE]at he;obtain⟨rfl,rfl⟩:=he;exact⟨rfl,fun τ=>by simp_all⟩
       . split at h2
         . split at h2
           . obtain⟨u,hu,he⟩:=qAu.1 h2;simp only[qAE]at he;obtain⟨rfl,rfl⟩:=he;exact⟨rfl,fun τ=>by simp_all⟩
           . cases h2
         . split at h2
           . obtain⟨u,hu,he⟩:=qAu.1 h2;simp only[qAE]at he;obtain⟨rfl,rfl⟩:=he;exact⟨rfl,fun τ=>by simp_all⟩
           . cases h2
         . cases h2
       . cases h2
     cases h2
    all_goals
     simp only[sem]at h2⊢
     first
      | (obtain⟨u,hu,he⟩:=qAu.1 h2
         simp only[qAE]at he;obtain⟨rfl,rfl⟩:=he;exact⟨rfl,fun τ=>by rw[hu];rfl⟩)
      | (cases h2
         exact⟨rfl,fun τ=>rfl⟩)
   exact⟨key.1,fun τ=>.inr ⟨h1,.inl (key.2 τ)⟩⟩
 rw[ho]at h;simp[qlc]at h
def qzt(h:qlc o.op=1)(hs:wF P G ops o env U v U'):U'=U:=by
 rcases hs with⟨h1,rfl,rfl⟩|⟨h1,h2⟩
 . rfl
 rcases h2 with h2|⟨f,args,ts,g,first,cap,ho,_,_,e⟩
 . obtain⟨dst,op,ty,pos,after,guard⟩:=o;simp only at h h2;cases op<;>simp only[qlc]at h<;>try(cases h;done)
   case load t a=>
    simp only[sem]at h2;obtain⟨u,hu,he⟩:=qAu.1 h2;simp only[qAE]at he;exact he.2.symm
   case lookup t a i ok=>
    simp only[sem]at h2;obtain⟨u,hu,he⟩:=qAu.1 h2;simp only[qAE]at he;exact he.2.symm
   case call c=>
    obtain⟨callee,args,ts⟩:=c
    cases callee with
    | builtin b=>
     simp only[sem]at h2;simp only at h;unfold zI at h2;split at h2
     . obtain⟨u,hu,he⟩:=qAu.1 h2;simp only[qAE]at he;exact he.2.symm
     . simp at h
     . simp at h
     . simp at h
     . simp at h
     cases h2
    |value f=>simp[sem]at h2
    |invoke r m=>simp[sem]at h2
 exact e
def qpQ{t u x}(h:∀d,t=some d->x≠.tmp d):ev G (upd env t u) x=ev G env x:=by
 cases t with
 |none=>rfl
 | some d=>
  cases x with
  | tmp n=>
   have:¬n=d:=fun e=>h d rfl (by rw[e])
   simp[ev,upd,this]
  |_=>rfl
def wO{l}(h:∀x∈l,ev G env x=ev G env' x):qbo G env l=qbo G env' l:=qBv h
def qb1(D){op}(h:∀x∈op.operands,ev G env x=ev G env' x):sem D G env U op=sem D G env' U op:=by
 have pairs:∀ps:Array (Nat×Operand),(∀x∈ps.map (·.2),ev G env x=ev G env' x)->(ps.toList.map fun p=>(p.1,ev G env p.2))=(ps.toList.map fun p=>(p.1,ev G env' p.2)):=fun ps hp=>
  qBv fun p hm=>by
   rw[hp p.2 (Array.mem_map.2 ⟨p,by simpa using hm,rfl⟩)]
 have opt:∀m:Option Operand,(∀x,m=some x->ev G env x=ev G env' x)->m.map (ev G env)=m.map (ev G env'):=by
  intro m hm
  cases m with
  |none=>rfl
  |some x=>simp[hm x rfl]
 cases op<;>simp only[Op.operands]at h<;>simp only[sem]
 case build t ps=>rw[pairs ps fun x hx=>h x (by simpa using hx)]
 case buildSlice t n ps=>rw[pairs ps fun x hx=>h x (by simpa using hx)]
 case makeFunc fn a b=>
  cases fn<;>simp only;rw[wO (env:=env) (env':=env') (l:=a.toList) (fun x hx=>h x (by simp at hx;simp[hx])),wO (env:=env) (env':=env') (l:=b.toList) (fun x hx=>h x (by simp at hx;simp[hx]))]
 case call c=>
  obtain⟨callee,args,ts⟩:=c;cases callee<;>simp only;rw[wO (env:=env) (env':=env') (l:=args.toList) (fun x hx=>h x (by simp at hx;simp[Call.operands,hx]))]
 case slice t x lo hi mx=>
  rw[h x (by simp),opt lo (fun y e=>h y (by simp[e])),opt hi (fun y e=>h y (by simp[e])),opt mx (fun y e=>h y (by simp[e]))]
 case pick c a b=>rw[h c (by simp),h a (by simp),h b (by simp)]
 case store t a b=>rw[h a (by simp),h b (by simp)]
 case binOp op t a b u=>rw[h a (by simp),h b (by simp)]
 case makeSlice t a b=>rw[h a (by simp),h b (by simp)]
 case indexAddr t a b=>rw[h a (by simp),h b (by simp)]
 case index t a b=>rw[h a (by simp),h b (by simp)]
 case lookup t a b ok=>rw[h a (by simp),h b (by simp)]
 case mapUpdate t a b c=>rw[h a (by simp),h b (by simp),h c (by simp)]
 case makeMap t r=>cases r<;>rfl
 case next it b=>cases b<;>first|rfl|simp only[h it (by simp)]
 all_goals first
  |(rw[h _ (by simp)];done)
  |rfl
def yp{t:Option Nat}{u:AV}(h:∀d,t=some d->d∉o.looksAt ops):wF P G ops o (upd env t u) U v U'↔wF P G ops o env U v U':=by
 have hop:∀x∈o.op.operands,ev G (upd env t u) x=ev G env x:=fun x hx=>qpQ fun d hd hxd=>h d hd (by
  subst hxd;exact qA7 _ (List.mem_filterMap.2 ⟨.tmp d,by simpa using hx,rfl⟩))
 have hw:jt ops (upd env t u) o=jt ops env o:=by
  unfold jt
  cases hg:o.guard with
  |none=>rfl
  | some jb=>
   obtain⟨j,b⟩:=jb
   cases hj:(ops[j]?).bind (·.dst) with
   |none=>simp[hj]
   | some s=>
    simp only[hj];have:upd env t u s=env s:=by
     cases t with
     |none=>rfl
     | some d=>
      have:¬s=d:=fun e=>h d rfl (by subst e;simp[Oper.looksAt,hg,hj])
      simp[upd,this]
    rw[this]
 have hsem:=qb1 (G:=G) (U:=U) (Dof P) (op:=o.op) (env:=upd env t u) (env':=env) hop;have hpure:∀f args ts,o.op=.call { callee:=.value f,args:=args,argTypes:=ts }->ev G (upd env t u) f=ev G env f/\qbo G (upd env t u) args.toList=qbo G env args.toList:=by
  intro f args ts ho;rw[ho]at hop;simp only[Op.operands,Call.operands]at hop;exact⟨hop f (by simp),wO fun x hx=>hop x (by simp at hx;simp[hx])⟩
 unfold wF OpA;rw[hw,hsem];constructor
 . rintro(h1|⟨h1,h2|⟨f,args,ts,g,first,cap,ho,h3,h4⟩⟩)
   . exact .inl h1
   . exact .inr ⟨h1,.inl h2⟩
   . obtain⟨e1,e2⟩:=hpure f args ts ho;rw[e1]at h3;rw[e2]at h4;exact .inr ⟨h1,.inr ⟨f,args,ts,g,first,cap,ho,h3,h4⟩⟩
 rintro(h1|⟨h1,h2|⟨f,args,ts,g,first,cap,ho,h3,h4⟩⟩)
 . exact .inl h1
 . exact .inr ⟨h1,.inl h2⟩
 obtain⟨e1,e2⟩:=hpure f args ts ho;rw[<- e1]at h3;rw[<- e2]at h4;exact .inr ⟨h1,.inr ⟨f,args,ts,g,first,cap,ho,h3,h4⟩⟩
def qfl{s t u v}(h:∀d,s=some d->t≠some d):upd (upd env s u) t v=upd (upd env t v) s u:=by
 cases s with
 |none=>rfl
 | some d=>
  cases t with
  |none=>rfl
  | some e=>
   have hne:e≠d:=fun x=>h d rfl (by rw[x])
   funext i;simp only[upd];by_cases h1:i=e
   . subst h1;simp[hne]
   simp[h1]
def ze(mu:Bool)(ac:List Nat)(k:Nat)(op:Op):Nat :=
 match op with
 |.alloc _=>2
 |.box .. =>2
 |.makeMap _ none=>2
 |.call { callee:=.builtin .append,.. }=>if mu then 9 else 3
 |.call { callee:=.value _,.. }=>if ac.contains k then 9 else 1
 |op=>match qlc op with|0=>0|1=>1|_=>9
def quU(x y:Nat):Bool:=x==0||y==0||(x==1&&(y==1||y==2||y==3))||(x==3&&(y==1||y==2))||(x==2&&y==3)
def qcU(ops:Array Oper)(x y:Oper)(cx cy:Nat):Bool:=x.apart ops y&&quU cx cy
def qhV{D}{U τ:St}{t:Nat}{a u:AV}(hH:∀(b:Nat) (x:Blk),U.H[b]?=some x->τ.H[b]?=some x)(h:kx D U t a=some u):kx D τ t a=some u:=by
 unfold kx at h⊢
 cases hD:D t with
 |none=>simp[hD]at h
 | some i=>
  cases a<;>simp only[hD]at h⊢<;>first|exact h|(cases h;done)|skip
  rename_i b off
  cases hb:U.H[b]? with
  |none=>simp[hb]at h
  |some x=>rw[hH _ _ hb];rw[hb]at h;exact h
def qcz{D}{U τ:St}{t}{m k u:AV}{ok:Bool}(hH:∀(b:Nat) (x:Blk),U.H[b]?=some x->τ.H[b]?=some x)(h:zA D U t m k ok=some u):zA D τ t m k ok=some u:=by
 unfold zA at h⊢
 cases hD:D t with
 |none=>simp[hD]at h
 | some i=>
  simp only[hD]at h⊢;cases hd:i.d<;>simp only[hd]at h⊢<;>first|(cases h;done)|skip
  rename_i kt et;by_cases hk:zG D kt k=true
  . rw[if_pos hk]at h⊢;cases m<;>simp only at h⊢<;>first|exact h|(cases h;done)|skip
    rename_i b
    cases hb:U.H[b]? with
    |none=>simp[hb]at h
    |some x=>rw[hH _ _ hb];rw[hb]at h;exact h
  rw[if_neg hk]at h;cases h
def qke{D}{U τ:St}{t:Nat}{x u:AV}(hH:∀(b:Nat) (x:Blk),U.H[b]?=some x->τ.H[b]?=some x)(h:YA D U t x=some u):YA D τ t x=some u:=by
 unfold YA at h⊢
 cases hD:D t with
 |none=>simp[hD]at h
 | some i=>
  simp only[hD]at h⊢;cases x<;>cases hd:i.d<;>simp only[hd]at h⊢<;>first|exact h|(cases h;done)|skip
  rename_i b _ _
  cases hb:U.H[b]? with
  |none=>simp[hb]at h
  |some x=>rw[hH _ _ hb];rw[hb]at h;exact h
def qzu{D U ts vs v U'}(h:zI D U .append ts vs=some (v,U')):∃t s x,ts=[t,t]/\vs=[s,x]/\qr D U t s x=some (v,U'):=by
 match ts,vs,h with
 | [t,u],[s,x],h=>
  simp only[zI]at h;split at h
  . rename_i hut;subst hut;exact⟨_,s,x,rfl,rfl,h⟩
  cases h
 |[],_,h=>simp[zI]at h
 |[_],_,h=>simp[zI]at h
 |_::_::_::_,_,h=>simp[zI]at h
 |[_,_],[],h=>simp[zI]at h
 |[_,_],[_],h=>simp[zI]at h
 |[_,_],_::_::_::_,h=>simp[zI]at h
def qzs{D U ts vs v U'}(h:zI D U .len ts vs=some (v,U')):∃t x,ts=[t]/\vs=[x]/\YA D U t x=some v:=by
 cases ts with
 |nil=>simp[zI]at h
 | cons t r=>
  cases r with
  |cons _ _=>simp[zI]at h
  | nil=>
   cases vs with
   |nil=>simp[zI]at h
   | cons x s=>
    cases s with
    |cons _ _=>simp[zI]at h
    | nil=>
     simp only[zI]at h;obtain⟨u,hu,he⟩:=qAu.1 h;simp only[qAE]at he;obtain⟨rfl,_⟩:=he;exact⟨t,x,rfl,rfl,hu⟩
def Ko(h:qlc o.op=1)(hs:wF P G ops o env U v U'):U'=U/\∀τ:St,(∀(b:Nat) (x:Blk),U.H[b]?=some x->τ.H[b]?=some x)->wF P G ops o env τ v τ:=by
 have e:=qzt h hs;refine⟨e,fun τ hH=>?_⟩;subst e;rcases hs with⟨h1,rfl,_⟩|⟨h1,h2⟩
 . exact .inl ⟨h1,rfl,rfl⟩
 refine .inr ⟨h1,?_⟩;rcases h2 with h2|⟨f,args,ts,g,first,cap,ho,hf,hp,_⟩
 . left;obtain⟨dst,op,type,pos,after,guard⟩:=o;simp only at h h2⊢;cases op<;>simp only[qlc]at h<;>try(cases h;done)
   case load t a=>
    simp only[sem]at h2⊢;obtain⟨u,hu,he⟩:=qAu.1 h2;simp only[qAE]at he;obtain⟨rfl,_⟩:=he;rw[qhV hH hu];rfl
   case lookup t a i ok=>
    simp only[sem]at h2⊢;obtain⟨u,hu,he⟩:=qAu.1 h2;simp only[qAE]at he;obtain⟨rfl,_⟩:=he;rw[qcz hH hu];rfl
   case call c=>
    obtain⟨callee,args,ts⟩:=c
    cases callee with
    | builtin b=>
     simp only at h;simp only[sem]at h2⊢;cases b<;>simp only at h<;>try(cases h;done)
     obtain⟨t,x,e1,e2,hu⟩:=qzs h2;rw[e1,e2];simp only[zI,qke hH hu];rfl
    |value f=>simp[sem]at h2
    |invoke r m=>simp[sem]at h2
 exact .inr ⟨f,args,ts,g,first,cap,ho,hf,hp.mono hH,rfl⟩
def qaJ(h:(∃e,o.op=.alloc e)\/(∃e x,o.op=.box e x)\/(∃t,o.op=.makeMap t none))(hs:wF P G ops o env U v U') :
 (∀(b:Nat) (x:Blk),U.H[b]?=some x->U'.H[b]?=some x)/\U'.T=U.T/\∀T,wF P G ops o env ⟨U.H,T⟩ v ⟨U'.H,T⟩:=by
 have push:∀(b:Blk) (i:Nat) (x:Blk),U.H[i]?=some x->(U.H++[b])[i]?=some x:=fun b i x hi=>by
  rw[qAB (qAm.1 hi).1];exact hi
 rcases hs with⟨h1,rfl,rfl⟩|⟨h1,h2⟩
 . exact⟨fun _ _ e=>e,rfl,fun T=>.inl ⟨h1,rfl,rfl⟩⟩
 rcases h2 with h2|⟨f,args,ts,g,first,cap,ho,hf,hp,_⟩
 . obtain⟨dst,op,type,pos,after,guard⟩:=o;simp only at h h2;rcases h with⟨e,rfl⟩|⟨e,x,rfl⟩|⟨t,rfl⟩
   . simp only[sem]at h2;split at h2
     . rename_i i hD;split at h2
       . rename_i hz;cases h2;exact⟨push _,rfl,fun T=>.inr ⟨h1,.inl (by simp[sem,hD,hz,St.push])⟩⟩
       cases h2
     cases h2
   . simp only[sem]at h2;obtain⟨c,hc,he⟩:=qAu.1 h2;simp only[qAE]at he;obtain⟨rfl,rfl⟩:=he;exact⟨push _,rfl,fun T=>.inr ⟨h1,.inl (by simp[sem,hc,St.push])⟩⟩
   simp only[sem,qAG,qAE]at h2;obtain⟨rfl,rfl⟩:=h2;exact⟨push _,rfl,fun T=>.inr ⟨h1,.inl (by simp[sem,St.push])⟩⟩
 rw[ho]at h;rcases h with⟨e,h⟩|⟨e,x,h⟩|⟨t,h⟩<;>cases h
def qbh{args ts}(h:o.op=.call { callee:=.builtin .append,args:=args,argTypes:=ts })(hs:wF P G ops o env U v U') :
 U'.H=U.H/\∀H,wF P G ops o env ⟨H,U.T⟩ v ⟨H,U'.T⟩:=by
 rcases hs with⟨h1,rfl,rfl⟩|⟨h1,h2⟩
 . exact⟨rfl,fun H=>.inl ⟨h1,rfl,rfl⟩⟩
 rcases h2 with h2|⟨f,args',ts',g,first,cap,ho,hf,hp,_⟩
 . obtain⟨dst,op,type,pos,after,guard⟩:=o;simp only at h;subst h;simp only[sem]at h2;have key:U'.H=U.H/\∀H,zI (Dof P) ⟨H,U.T⟩ .append ts.toList (qbo G env args.toList)=some (v,⟨H,U'.T⟩):=by
    obtain⟨t,s,x,e1,e2,h3⟩:=qzu h2;rw[e1,e2];simp only[zI,if_true];unfold qr at h3⊢;split at h3
    case h_2=>cases h3
    rename_i i sz rows tok sz2 rows2 hD hr
    try simp only[]
    split at h3
    case h_2=>cases h3
    rename_i e hd;split at h3
    case h_2=>cases h3
    rename_i j hj
    try simp only[hj]
    split at h3
    case isFalse=>cases h3
    rename_i hc
    try simp only[if_pos hc]
    split at h3
    . rename_i hn;cases h3;exact⟨rfl,fun H=>by rw[if_pos hn]⟩
    rename_i hn;split at h3
    . cases h3
    . cases h3;exact⟨rfl,fun H=>by rw[if_neg hn]⟩
    . cases h3;exact⟨rfl,fun H=>by rw[if_neg hn]⟩
    split at h3
    . rename_i hk;cases h3;exact⟨rfl,fun H=>by rw[if_neg hn,if_pos hk]⟩
    cases h3
   exact⟨key.1,fun H=>.inr ⟨h1,.inl (by simp only[sem];exact key.2 H)⟩⟩
 rw[h]at ho;cases ho
def qlb{mu ac k op} :
 (ze mu ac k op=0->qlc op=0)/\(ze mu ac k op=1->qlc op=1)/\(ze mu ac k op=2->(∃e,op=.alloc e)\/(∃e x,op=.box e x)\/(∃t,op=.makeMap t none)) /\
   (ze mu ac k op=3->∃args ts,op=.call { callee:=.builtin .append,args:=args,argTypes:=ts }):=by
 unfold ze;split
 . simp
 . simp
 . simp
 . cases mu<;>simp
 . split<;>simp[qlc]
 rename_i op h1 h2 h3 h4 h5;split
 . rename_i h;simp[h]
 . rename_i h;simp[h]
 simp
def qxs{oi oj vi vj U1 U2 mu ac i j}(hf:qcU ops oi oj (ze mu ac i oi.op) (ze mu ac j oj.op)=true)(hi:wF P G ops oi env U vi U1)(hj:wF P G ops oj (upd env oi.dst vi) U1 vj U2) :
 ∃τ,wF P G ops oj env U vj τ/\wF P G ops oi (upd env oj.dst vj) τ vi U2/\upd (upd env oj.dst vj) oi.dst vi=upd (upd env oi.dst vi) oj.dst vj:=by
 simp only[qcU,quU,qAr,qCj,beq_iff_eq]at hf;obtain⟨ha,hc⟩:=hf;obtain⟨a1,a2,a3⟩:=Oper.apart_spec ha;have hj':=(yp a1).1 hj;have hcomm:upd (upd env oj.dst vj) oi.dst vi=upd (upd env oi.dst vi) oj.dst vj:=(qfl a2).symm;obtain⟨ci0,ci1,ci2,ci3⟩:=qlb (mu:=mu) (ac:=ac) (k:=i) (op:=oi.op);obtain⟨cj0,cj1,cj2,cj3⟩:=qlb (mu:=mu) (ac:=ac) (k:=j) (op:=oj.op);rcases hc with(((hc|hc)|⟨hc,hc2⟩)|⟨hc,hc2⟩)|⟨hc,hc2⟩
 . obtain⟨rfl,hall⟩:=qyu (ci0 hc) hi;exact⟨U2,hj',(yp a3).2 (hall U2),hcomm⟩
 . obtain⟨rfl,hall⟩:=qyu (cj0 hc) hj';exact⟨U,hall U,(yp a3).2 hi,hcomm⟩
 . obtain⟨rfl,hall⟩:=Ko (ci1 hc) hi;have hH:∀(b:Nat) (x:Blk),U1.H[b]?=some x->U2.H[b]?=some x:=by
    rcases hc2 with(hc2|hc2)|hc2
    . obtain⟨rfl,_⟩:=Ko (cj1 hc2) hj';exact fun _ _ e=>e
    . exact(qaJ (cj2 hc2) hj').1
    obtain⟨args,ts,ho⟩:=cj3 hc2;rw[(qbh ho hj').1];exact fun _ _ e=>e
   exact⟨U2,hj',(yp a3).2 (hall U2 hH),hcomm⟩
 . obtain⟨args,ts,ho⟩:=ci3 hc;obtain⟨e1,hall⟩:=qbh ho hi;obtain⟨H,T⟩:=U;obtain⟨H1,T1⟩:=U1;simp only at e1 hall;subst e1;rcases hc2 with hc2|hc2
   . obtain⟨rfl,hallj⟩:=Ko (cj1 hc2) hj';exact⟨⟨H1,T⟩,hallj _ (fun _ _ e=>e),(yp a3).2 (hall H1),hcomm⟩
   obtain⟨_,e2,hallj⟩:=qaJ (cj2 hc2) hj';obtain⟨H2,T2⟩:=U2;simp only at e2 hallj;subst e2;exact⟨⟨H2,T⟩,hallj T,(yp a3).2 (hall H2),hcomm⟩
 obtain⟨args,ts,ho⟩:=cj3 hc2;obtain⟨e1,hallj⟩:=qbh ho hj';obtain⟨_,e2,hall⟩:=qaJ (ci2 hc) hi;obtain⟨H,T⟩:=U;obtain⟨H1,T1⟩:=U1;obtain⟨H2,T2⟩:=U2;simp only at e1 e2 hall hallj;subst e1;subst e2;exact⟨⟨H,T2⟩,hallj H,(yp a3).2 (hall T2),hcomm⟩
def Yp(P:Program)(G:Glo)(ops:Array Oper)(mu:Bool)(ac:List Nat)(R:Env->St->Prop):Nat->Array Bool->Env->St->Prop
 |0,listed,env,U=>Region.ready .any ops listed=[]/\R env U
 | fuel+1,listed,env,U=>(Region.ready .any ops listed=[]->R env U) /\
  ∀ i∈Region.ready .any ops listed,∃o,ops[i]?=some o /\
   ((∃v U',wF P G ops o env U v U'/\Yp P G ops mu ac R fuel (listed.setIfInBounds i true) (upd env o.dst v) U') \/
    (ze mu ac i o.op=9/\jt ops env o=some true/\jN P G mu false o.op env U (fun v U'=>Yp P G ops mu ac R fuel (listed.setIfInBounds i true) (upd env o.dst v) U')))
def qic(ops:Array Oper)(listed:Array Bool)(i:Nat)(dp:List Nat):Bool :=
 dp.all fun j=>!listed.getD j true&&(match ops[j]? with
  |some oj=>oj.after.any fun e=>Region.binds .any e&&(e.on==i||dp.contains e.on)
  |none=>true)
def qjU{listed i j dp}(hd:qic ops listed i dp=true)(hi:listed.getD i true=false)(hj:j∈Region.ready .any ops listed):j∉dp:=by
 intro hm;have h1:=qAv.1 hd j hm;simp only[qAr,qBO]at h1;obtain⟨hun,oj,hoj,hall⟩:=mem_ready.1 hj;rw[hoj]at h1;obtain⟨e,he,he2⟩:=Array.any_eq_true'.1 h1.2;simp only[qAr,qCj,beq_iff_eq]at he2;have hl:=hall e he he2.1;have tt:∀k,listed.getD k true=false->listed.getD k false=true->False:=by
  intro k h2 h3;rcases qD3 k listed.size with h'|h'
  . simp[h']at h2 h3;rw[h2]at h3;cases h3
  simp[Array.getElem?_eq_none h']at h3
 rcases he2.2 with h2|h2
 . rw[h2]at hl;exact tt i hi hl
 have h3:=qAv.1 hd e.on (by simpa using h2);simp only[qAr,qBO]at h3;exact tt _ h3.1 hl
def qc8{listed i j dp}(hd:qic ops listed i dp=true)(hj:j∉dp):qic ops (listed.setIfInBounds j true) i dp=true:=by
 refine qAv.2 fun k hk=>?_
 have h1:=qAv.1 hd k hk;simp only[qAr,qBO]at h1⊢;have hjk:j≠k:=fun e=>hj (e▸hk)
 exact⟨by rw[getD_set_ne true hjk];exact h1.1,h1.2⟩
def qem{o:Oper}{d:Nat}(h:d∉o.looksAt ops) : .tmp d∉o.op.operands.toList:=fun hm=>h (qA7 _ (List.mem_filterMap.2 ⟨.tmp d,hm,rfl⟩))
def qby{t:Option Nat}{u:AV}(h:∀d,t=some d->d∉o.looksAt ops):jt ops (upd env t u) o=jt ops env o:=by
 unfold jt
 cases hg:o.guard with
 |none=>rfl
 | some jb=>
  obtain⟨j,b⟩:=jb
  cases hj:(ops[j]?).bind (·.dst) with
  |none=>simp[hj]
  | some s=>
   simp only[hj];have:upd env t u s=env s:=by
    cases t with
    |none=>rfl
    | some d=>
     have:¬s=d:=fun e=>h d rfl (by subst e;simp[Oper.looksAt,hg,hj])
     simp[upd,this]
   rw[this]
def qho(D){mu op}(h:∀x∈op.operands,ev G env x=ev G env' x):qb2 D G mu env U op=qb2 D G mu env' U op:=by
 cases op<;>simp only[Op.operands]at h<;>simp only[qb2]
 case makeSlice t x y=>rw[h x (by simp),h y (by simp)]
 case binOp o t x y u=>rw[h x (by simp),h y (by simp)]
 case call c=>
  obtain⟨callee,args,ts⟩:=c;cases callee<;>simp only;rename_i b;have ha:∀x∈args.toList,ev G env x=ev G env' x:=fun x hx=>h x (by simp at hx;simp[Call.operands,hx])
  generalize ts.toList=tl;generalize args.toList=al at ha;split
  . cases mu
    . rfl
    . simp only[ha _ (qCC),ha _ (qBT _ (qCC))]
  . simp only[ha _ (qCC)]
  . simp only[ha _ (qCC),ha _ (qBT _ (qCC))]
  rfl
variable {G:Glo}
def qmh{mu op t u R}(h:∀d,t=some d->.tmp d∉op.operands.toList):jN P G mu false op (upd env t u) U R↔jN P G mu false op env U R:=by
 have hop:∀x∈op.operands,ev G (upd env t u) x=ev G env x:=fun x hx=>qpQ fun d hd hxd=>h d hd (by subst hxd;simpa using hx)
 by_cases hc:∃f args ts,op=.call { callee:=.value f,args:=args,argTypes:=ts }
 . obtain⟨f,args,ts,rfl⟩:=hc;simp only[Op.operands,Call.operands]at hop;simp only[jN];rw[hop f (by simp),wO (l:=args.toList) (fun x hx=>hop x (by simp at hx;simp[hx]))]
 rw[jN.plain hc,jN.plain hc,qho (Dof P) hop,qb1 (Dof P) hop]
variable {mu:Bool}{ac:List Nat}
def Yp.first{R i oi vi dp}(hi:ops[i]?=some oi):∀(fuel) (listed) (env) (U U1),
 qic ops listed i dp=true ->
 (∀(j) (oj),ops[j]?=some oj->j≠i->listed.getD j true=false->j∉dp->qcU ops oi oj (ze mu ac i oi.op) (ze mu ac j oj.op)=true/\(ze mu ac j oj.op≠9\/ze mu ac i oi.op=0)) ->
 i∈Region.ready .any ops listed->wF P G ops oi env U vi U1->Yp P G ops mu ac R fuel (listed.setIfInBounds i true) (upd env oi.dst vi) U1->Yp P G ops mu ac R (fuel+1) listed env U:=by
 intro fuel
 induction fuel with
 | zero=>
  intro listed env U U1 hd _ hr hs H;refine⟨fun h=>(by rw[h]at hr;cases hr),fun j hj=>?_⟩;by_cases hji:j=i
  . subst hji;exact⟨oi,hi,.inl ⟨vi,U1,hs,H⟩⟩
  have:=ready_mono hj hji;rw[H.1]at this;cases this
 | succ fuel ih=>
  intro listed env U U1 hd hfree hr hs H;refine⟨fun h=>(by rw[h]at hr;cases hr),fun j hj=>?_⟩;by_cases hji:j=i
  . subst hji;exact⟨oi,hi,.inl ⟨vi,U1,hs,H⟩⟩
  obtain⟨oj,hoj,hst⟩:=H.2 j (ready_mono hj hji);obtain⟨hjun,oj',hoj',hall⟩:=mem_ready.1 hj;rw[hoj]at hoj';cases hoj';have hnd:=qjU hd (mem_ready.1 hr).1 hj;obtain⟨hf1,hf2⟩:=hfree j oj hoj hji hjun hnd;have rest:∀(k:Nat) (ok:Oper),ops[k]?=some ok->k≠i->(listed.setIfInBounds j true).getD k true=false->k∉dp->qcU ops oi ok (ze mu ac i oi.op) (ze mu ac k ok.op)=true/\(ze mu ac k ok.op≠9\/ze mu ac i oi.op=0):=by
   intro k ok hk hki hun hkd;refine hfree k ok hk hki ?_ hkd;by_cases hjk:j=k
   . subst hjk;exact hjun
   rw[getD_set_ne true hjk]at hun;exact hun
  rcases hst with⟨vj,U2,hsj,H2⟩|⟨hc9,hw9,H2⟩
  . obtain⟨τ,s1,s2,s3⟩:=qxs hf1 hs hsj;refine⟨oj,hoj,.inl ⟨vj,τ,s1,ih (listed.setIfInBounds j true) _ τ U2 (qc8 hd hnd) rest (ready_mono hr (Ne.symm hji)) s2 ?_⟩⟩;rw[qD4 _ _ hji,s3];exact H2
  have h0:=hf2.resolve_left (fun h=>h hc9);simp only[qcU,qAr]at hf1;obtain⟨a1,a2,a3⟩:=Oper.apart_spec hf1.1;obtain⟨rfl,hpure⟩:=qyu ((qlb (mu:=mu) (ac:=ac) (k:=i) (op:=oi.op)).1 h0) hs;refine⟨oj,hoj,.inr ⟨hc9,by rw[<- qby (t:=oi.dst) (u:=vi) a1];exact hw9,?_⟩⟩;refine((qmh (t:=oi.dst) (u:=vi) (fun d hd=>qem (a1 d hd))).1 H2).imp fun v U' hv=>?_
  refine ih (listed.setIfInBounds j true) _ U' U' (qc8 hd hnd) rest (ready_mono hr (Ne.symm hji)) ((yp a3).2 (hpure U')) ?_;rw[qD4 _ _ hji,qfl (s:=oj.dst) (t:=oi.dst) (fun d hd e=>a2 d e hd)];exact hv
def Yp.solo{R i oi dp}(hi:ops[i]?=some oi){fuel listed env U}(hd:qic ops listed i dp=true)
 (hall:∀(j) (oj),ops[j]?=some oj->j≠i->listed.getD j true=false->j∈dp) (hr:i∈Region.ready .any ops listed)
 (H:(∃v U',wF P G ops oi env U v U'/\Yp P G ops mu ac R fuel (listed.setIfInBounds i true) (upd env oi.dst v) U') \/
   (ze mu ac i oi.op=9/\jt ops env oi=some true/\jN P G mu false oi.op env U (fun v U'=>Yp P G ops mu ac R fuel (listed.setIfInBounds i true) (upd env oi.dst v) U'))) :
 Yp P G ops mu ac R (fuel+1) listed env U:=by
 refine⟨fun h=>(by rw[h]at hr;cases hr),fun j hj=>?_⟩;by_cases hji:j=i
 . subst hji;exact⟨oi,hi,H⟩
 obtain⟨hjun,oj,hoj,_⟩:=mem_ready.1 hj;exact absurd (hall j oj hoj hji hjun) (qjU hd (mem_ready.1 hr).1 hj)
def QO(hsl:vT N ops=true){R w0 ro0 Q}:∀(fuel) (listed) (env) (U) (K) (a) (w),
 (∀K' env' U' a' w',K.le K'->WRel G w0 ro0 K' U' w'->ERel K' N env' a'->a'.defers=a.defers->R env' U'->Q .normal a' w') ->
 (∀c K' U' a' w',K.le K'->WRel G w0 ro0 K' U' w'->a'.defers=a.defers->G.X c U'->Q (.panic c) a' w')->WRel G w0 ro0 K U w->ERel K N env a->Yp P G ops mu ac R fuel listed env U->wpAny P .any ops Q fuel listed a w
 |0,listed,env,U,K,a,w,hq,_,hw,he,h=>⟨h.1,hq K env U a w (qE0 K) hw he rfl h.2⟩
 | fuel+1,listed,env,U,K,a,w,hq,hp,hw,he,h=>by
  refine⟨fun h0=>hq K env U a w (qE0 K) hw he rfl (h.1 h0),fun i hi=>?_⟩;obtain⟨o,ho,H⟩:=h.2 i hi;have hmem:o∈ops.toList:=qAn (i:=i) (by simpa using ho);have hd:=ZB hsl hmem;have hgd:=Za hsl o;unfold wpOp;simp only[ho];rcases H with⟨v,U',hs,H⟩|⟨_,hwant,H⟩
  . rcases hs with⟨hwant,rfl,rfl⟩|⟨hwant,hop⟩
    . rw[if_neg (by simp[yM he hgd hwant])];exact QO hsl fuel _ _ _ K _ w (fun K2 env2 U2 a2 w2 hle x1 x2 xd=>hq K2 env2 U2 a2 w2 hle x1 x2 (xd.trans qEB)) (fun c K2 U2 a2 w2 hle x1 xd=>hp c K2 U2 a2 w2 hle x1 (xd.trans qEB)) hw (he.put hd (by simp only[qi];exact⟨#[],rfl,by simp[qj]⟩)) H
    . rw[if_pos (yM he hgd hwant)];refine .inl (qrv hw he hd hop fun K' a' w' h1 h2 h3 hds=>?_);exact QO hsl fuel _ _ _ K' a' w' (fun K2 env2 U2 a2 w2 hle x1 x2 xd=>hq K2 env2 U2 a2 w2 (qE1 h1 hle) x1 x2 (xd.trans hds)) (fun c K2 U2 a2 w2 hle x1 xd=>hp c K2 U2 a2 w2 (qE1 h1 hle) x1 (xd.trans hds)) h2 h3 H
  rw[if_pos (yM he hgd hwant)];refine .inl (qjM hw he hd H (fun v U' K' a' w' hA h1 h2 h3 hds=>?_) fun c U' K' w' hx h1 h2=>hp c K' U' _ w' h1 h2 rfl hx);exact QO hsl fuel _ _ _ K' a' w' (fun K2 env2 U2 a2 w2 hle x1 x2 xd=>hq K2 env2 U2 a2 w2 (qE1 h1 hle) x1 x2 (xd.trans hds)) (fun c K2 U2 a2 w2 hle x1 xd=>hp c K2 U2 a2 w2 (qE1 h1 hle) x1 (xd.trans hds)) h2 h3 hA
end
mutual
inductive Sch where
 |done
 |step (k:Nat) (dp:List Nat) (s:Sch)
 |fork (a:Alts)
inductive Alts where
 |nil
 |cons (k:Nat) (s:Sch) (r:Alts)
end
def qbV(ops:Array Oper)(mu:Bool)(ac:List Nat)(listed:Array Bool)(k:Nat)(dp:List Nat):Bool :=
 (Region.ready .any ops listed).contains k&&qic ops listed k dp&&(match ops[k]? with
   | some ok=>(List.range ops.size).all fun j=>j==k||listed.getD j true||dp.contains j||(ze mu ac k ok.op != 9&&(match ops[j]? with
    |some oj=>qcU ops ok oj (ze mu ac k ok.op) (ze mu ac j oj.op)&&(ze mu ac j oj.op != 9||ze mu ac k ok.op==0)
    |none=>true))
   |none=>false)
mutual
def qd5(ops:Array Oper)(mu:Bool)(ac:List Nat):Sch->Array Bool->Bool
 |.done,listed=>(Region.ready .any ops listed).isEmpty
 |.step k dp s,listed=>qbV ops mu ac listed k dp&&qd5 ops mu ac s (listed.setIfInBounds k true)
 |.fork a,listed=>!(Region.ready .any ops listed).isEmpty&&qdp ops mu ac a listed (Region.ready .any ops listed)
def qdp(ops:Array Oper)(mu:Bool)(ac:List Nat):Alts->Array Bool->List Nat->Bool
 |.nil,_,need=>need.isEmpty
 |.cons k s r,listed,need=>need.contains k&&qd5 ops mu ac s (listed.setIfInBounds k true)&&qdp ops mu ac r listed (need.filter (· != k))
end
mutual
def Vc:Sch->Nat
 |.done=>0
 |.step _ _ s=>Vc s+1
 |.fork a=>qbi a+1
def qbi:Alts->Nat
 |.nil=>0
 |.cons _ s r=>max (Vc s) (qbi r)
end
def qzb(ops:Array Oper)(k:Nat):List Nat :=
 (List.range ops.size).foldl (fun dp j=>match ops[j]? with
   |some oj=>if oj.after.any (fun e=>Region.binds .any e&&(e.on==k||dp.contains e.on)) then j::dp else dp
   |none=>dp) []
def quD(ops:Array Oper)(mu:Bool)(ac:List Nat):Nat->Nat->Array Bool->Bool
 |0,_,listed=>(Region.ready .any ops listed).isEmpty
 |fuel+1,k,listed=>qbV ops mu ac listed k (qzb ops k)&&quD ops mu ac fuel (k+1) (listed.setIfInBounds k true)
def qpX(ops:Array Oper)(mu lw:Bool):Bool:=quD ops mu (if lw then [ops.size-1] else []) ops.size 0 (Array.replicate ops.size false)
