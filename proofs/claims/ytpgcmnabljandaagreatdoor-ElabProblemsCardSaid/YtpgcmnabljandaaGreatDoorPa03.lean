/- A part of the proof. -/
import Derived.Test.YtpgcmnabljandaaGreatDoorPa02
import Derived.Deep.AppendSrc
import Derived.Lib.AppendZerosOnto
set_option linter.unusedVariables false
set_option linter.unusedSimpArgs false
set_option linter.defProp false
section
namespace Go.Abs
open Go Go.RowKit
section
section
variable {P:Program}{G:Nat->AV}{w0:World}{ro0:Nat->Nat->Option Value}{K:Kn}{O:St}{w w':World}{N:Nat}{env:Env}{a:Act}
theorem qeB (h:WRel G w0 ro0 K O w){t:Nat}{x:Value}{s:List UInt8}(hu:P.underlying t=some .string)(hx:qj K (.str s) x):Ran P G w0 ro0 K w (Instr.range t x) (.iter O.H.length) (O.push (.siter s 0)):=by
 simp only[qj]at hx;subst hx;refine⟨.pointer (some ⟨w.heap.size,0,none⟩),w.alloc (.stringIter ⟨s.toArray⟩ 0),K.addM O.H.length w.heap.size (kD _),?_,Kn.le_addM h _ _,h.push ?_,?_⟩
 . simp[Instr.range,run_underlying hu]
 . simp[jX]
 . simp only[qj];exact⟨w.heap.size,by simp[Kn.addM],rfl⟩
theorem qhU (h:WRel G w0 ro0 K O w){t:Nat}{x:Value}{a:AV}{v:AV}{O':St}(hx:qj K a x)(hf:qaY O a=some (v,O')):Ran P G w0 ro0 K w (Instr.next x true t) v O':=by
 unfold qaY at hf;split at hf
 . rename_i b;split at hf
   . rename_i s pos hb;simp only[qj]at hx;obtain⟨B,hm,rfl⟩:=hx;obtain⟨B',h1,hB0,hBl,h4,_⟩:=h.blk b _ hb;rw[hm]at h1;cases h1;simp only[jX]at h4;have hbl:b<O.H.length:=(qqV.1 hb).1;split at hf
     . rename_i hp;simp only[Option.some.injEq,Prod.mk.injEq]at hf;obtain⟨rfl,rfl⟩:=hf;have hp':pos<(ByteArray.mk s.toArray).size:=(by simpa[ByteArray.size] using hp);refine⟨.tuple #[.bool true,.int .i64 pos,.int .i32 (Utf8.decode ⟨s.toArray⟩ pos).1],{ w with heap:=w.heap.setIfInBounds B (.stringIter ⟨s.toArray⟩ (pos+(Utf8.decode ⟨s.toArray⟩ pos).2)) },K,?_,Kn.le_refl K,?_,?_⟩
       . simp[Instr.next,getObj,setObj,Sem.run,h4,hp',goInt]
       . refine h.setBlk (B:=B) hbl hm rfl rfl rfl (by simp) (fun k hk=>by simp[qsy (Ne.symm hk)]) ?_ (by rw[hb];simp) (fun cs2 el2 fr2 e2=>by simp[hBl]at e2) (fun cs2 el2 fr2 e2=>by simp[hBl]at e2);simp[jX,hBl]
       . simp[qj,qk]
     . rename_i hp;simp only[Option.some.injEq,Prod.mk.injEq]at hf;obtain⟨rfl,rfl⟩:=hf;have hp':¬ pos<(ByteArray.mk s.toArray).size:=(by simpa[ByteArray.size] using hp);refine⟨.tuple #[.bool false],w,K,?_,Kn.le_refl K,h,?_⟩
       . simp[Instr.next,getObj,Sem.run,h4,hp']
       . simp[qj,qk]
   . cases hf
 . cases hf
def Did (P:Program)(G:Nat->AV)(w0:World)(ro0:Nat->Nat->Option Value)(K:Kn)(w:World)(s:Sem Next)(v:AV)(O':St):Prop :=
 ∃ v' w' K',(s.run P w=.ok (.value v') w'\/(s.run P w=.ok .skip w'/\v'=undef))/\K.le K'/\WRel G w0 ro0 K' O' w'/\qj K' v v'
theorem Did.of_ran {s:Sem Value}{v:AV}{O':St}(h:Ran P G w0 ro0 K w s v O'):Did P G w0 ro0 K w (do pure (.value (<- s))) v O':=by
 obtain⟨v',w',K',h1,h2,h3,h4⟩:=h;exact⟨v',w',K',.inl (by simp[h1]),h2,h3,h4⟩
theorem Did.of_same (h:WRel G w0 ro0 K O w){s:Sem Value}{v:AV}(hr:∃ v',s.run P w=.ok v' w/\qj K v v'):Did P G w0 ro0 K w (do pure (.value (<- s))) v O:=by
 obtain⟨v',h1,h2⟩:=hr;exact Did.of_ran (Ran.same h h1 h2)
theorem Did.of_unit {s:Sem Unit}{O':St}(hr:∃ w',s.run P w=.ok () w'/\WRel G w0 ro0 K O' w'):Did P G w0 ro0 K w (do s;pure .skip) (.tup []) O':=by
 obtain⟨w',h1,h2⟩:=hr;exact⟨undef,w',K,.inr ⟨by simp[h1],rfl⟩,Kn.le_refl K,h2,by simp only[qj];exact⟨#[],rfl,by simp[qk]⟩⟩
theorem qcC (hw:WRel G w0 ro0 K O w)(he:ERel K N env a)(ps:Array (Nat×Operand)) :
 (ps.map fun (i,x)=>(i,a.eval x)).toList.map (·.1)=(ps.toList.map fun p=>(p.1,ev G env p.2)).map (·.1) /\
   qk K ((ps.toList.map fun p=>(p.1,ev G env p.2)).map (·.2)) ((ps.map fun (i,x)=>(i,a.eval x)).toList.map (·.2)):=by
 constructor
 . simp
 . have:=Zd hw he (ps.toList.map (·.2));simpa[VS,Function.comp_def] using this
theorem KC (hw:WRel G w0 ro0 K O w)(he:ERel K N env a)(o:Oper){v:AV}{O':St}(h:sem (Dof P) G env O o.op=some (v,O')) :
 Did P G w0 ro0 K w (execOp a.eval o) v O':=by
 have ex:=ZD hw he;obtain⟨dst,op,type,pos,after,guard⟩:=o;simp only at h;cases op<;>simp only[sem]at h
 case move x=>
  simp only[Option.some.injEq,Prod.mk.injEq]at h;obtain⟨rfl,rfl⟩:=h;exact⟨a.eval x,w,K,.inl rfl,Kn.le_refl K,hw,ex x⟩
 case assign x=>
  simp only[Option.some.injEq,Prod.mk.injEq]at h;obtain⟨rfl,rfl⟩:=h;exact⟨a.eval x,w,K,.inl rfl,Kn.le_refl K,hw,ex x⟩
 case pick c x y=>
  split at h
  . rename_i b hb;simp only[Option.some.injEq,Prod.mk.injEq]at h;obtain⟨rfl,rfl⟩:=h;have hc:=ex c;rw[hb]at hc;simp only[qj]at hc;refine⟨if b then a.eval x else a.eval y,w,K,.inl ?_,Kn.le_refl K,hw,?_⟩
    . simp[execOp,hc,asBool]
    . cases b
      . exact ex y
      . exact ex x
  . cases h
 case alloc e=>
  split at h
  . rename_i i hi;split at h
    . rename_i hz;simp only[Option.some.injEq,Prod.mk.injEq]at h;obtain⟨rfl,rfl⟩:=h;exact Did.of_ran (qfE hw hi hz)
    . cases h
  . cases h
 case box e x=>
  obtain⟨c,hc,he'⟩:=qq0.1 h;simp only[Prod.mk.injEq]at he';obtain⟨rfl,rfl⟩:=he';exact Did.of_ran (qlo hw (ex x) hc)
 case build t ps=>
  obtain⟨u,hu,he'⟩:=qq0.1 h;simp only[Prod.mk.injEq]at he';obtain⟨rfl,rfl⟩:=he';obtain⟨p1,p2⟩:=qcC hw he ps;exact Did.of_ran (qfv hw p1 p2 hu)
 case buildSlice t n ps=>
  obtain⟨u,hu,he'⟩:=qq0.1 h;simp only[Prod.mk.injEq]at he';obtain⟨rfl,rfl⟩:=he';obtain⟨p1,p2⟩:=qcC hw he ps;exact Did.of_ran (YT hw p1 p2 hu)
 case load t x=>
  obtain⟨u,hu,he'⟩:=qq0.1 h;simp only[Prod.mk.injEq]at he';obtain⟨rfl,rfl⟩:=he';exact Did.of_ran (qhZ hw (ex x) hu)
 case store t x y=>
  obtain⟨u,hu,he'⟩:=qq0.1 h;simp only[Prod.mk.injEq]at he';obtain⟨rfl,rfl⟩:=he';exact Did.of_unit (qeo hw (ex x) (ex y) hu)
 case nilCheck x=>
  have hx:=ex x;split at h
  . rename_i b o hb;simp only[Option.some.injEq,Prod.mk.injEq]at h;obtain⟨rfl,rfl⟩:=h;rw[hb]at hx;have hx':=hx;simp only[qj]at hx;obtain⟨B,_,e⟩:=hx;exact⟨a.eval x,w,K,.inl (by simp[execOp,e]),Kn.le_refl K,hw,hx'⟩
  . rename_i c hb;simp only[Option.some.injEq,Prod.mk.injEq]at h;obtain⟨rfl,rfl⟩:=h;rw[hb]at hx;have hx':=hx;simp only[qj]at hx;obtain⟨B,off,e,_⟩:=hx;exact⟨a.eval x,w,K,.inl (by simp[execOp,e]),Kn.le_refl K,hw,hx'⟩
  . cases h
 case binOp op t x y u=>
  obtain⟨u,hu,he'⟩:=qq0.1 h;simp only[Prod.mk.injEq]at he';obtain⟨rfl,rfl⟩:=he';exact Did.of_same hw (qlq (ex x) (ex y) hu x y)
 case unOp op t x=>
  obtain⟨u,hu,he'⟩:=qq0.1 h;simp only[Prod.mk.injEq]at he';obtain⟨rfl,rfl⟩:=he';exact Did.of_same hw (ql7 (ex x) hu)
 case convert s d x=>
  obtain⟨u,hu,he'⟩:=qq0.1 h;simp only[Prod.mk.injEq]at he';obtain⟨rfl,rfl⟩:=he';exact Did.of_same hw (qip hw (ex x) hu)
 case makeFunc fn x y=>
  cases fn<;>simp only at h<;>try (cases h;done)
  rename_i f;simp only[Option.some.injEq,Prod.mk.injEq]at h;obtain⟨rfl,rfl⟩:=h;refine⟨.func (.func f) (x.map a.eval) (y.map a.eval),w,K,.inl (by simp[execOp,Instr.makeFunc]),Kn.le_refl K,hw,?_⟩;simp only[qj];exact⟨_,_,rfl,by simpa using Zd hw he x.toList,by simpa using Zd hw he y.toList⟩
 case makeMap t r=>
  cases r with
  | none=>
   simp only[Option.some.injEq,Prod.mk.injEq]at h;obtain⟨rfl,rfl⟩:=h;exact Did.of_ran (qa7 hw t)
  | some r=>cases h
 case makeSlice t l c=>exact Did.of_ran (Wc hw (ex l) (ex c) h)
 case slice t x lo hi mx=>
  obtain⟨hlo,hlo0⟩:=qeM hw he lo;obtain⟨hhi,hhi0⟩:=qeM hw he hi;obtain⟨hmx,hmx0⟩:=qeM hw he mx;have hx:=ex x;split at h
  . rename_i i hD;obtain⟨inf,d,z,hi,hu,_,rfl⟩:=qB hD;simp only at h;split at h
    . rename_i s hd hxs;have:=QD hd;subst this;obtain⟨u,hu',he'⟩:=qq0.1 h;simp only[Prod.mk.injEq]at he';obtain⟨rfl,rfl⟩:=he';rw[hxs]at hx;simp only[qj]at hx;have:=qjj (P:=P) (K:=K) (w:=w) hu hlo hlo0 hhi hhi0 hmx0 hu';rw[<- hx]at this;exact Did.of_same hw this
    . rename_i e hd;have:=Zr hd;subst this;split at h
      . rename_i j sz rows tok hj hxs;obtain⟨inf2,d2,z2,hi2,hu2,_,rfl⟩:=qB hj;split at h
        . rename_i hsz;obtain⟨u,hu',he'⟩:=qq0.1 h;simp only[Prod.mk.injEq]at he';obtain⟨rfl,rfl⟩:=he';rw[hxs]at hx;exact Did.of_same hw (qmf hu hi2 hsz hx hlo hlo0 hhi hhi0 hmx hmx0 hu')
        . cases h
      . rename_i j b off len sz hj hxs;obtain⟨inf2,d2,z2,hi2,hu2,_,rfl⟩:=qB hj;split at h
        . rename_i hsz;simp only at hsz;subst hsz;obtain⟨u,hu',he'⟩:=qq0.1 h;simp only[Prod.mk.injEq]at he';obtain⟨rfl,rfl⟩:=he';rw[hxs]at hx;exact Did.of_same hw (qmg hu hi2 hx hlo hlo0 hhi hhi0 hmx0 hu')
        . cases h
      . cases h
    . cases h
  . cases h
 case fieldAddr s x f=>
  obtain⟨u,hu,he'⟩:=qq0.1 h;simp only[Prod.mk.injEq]at he';obtain⟨rfl,rfl⟩:=he';exact Did.of_same hw (WA hw (ex x) hu)
 case field s x f=>
  obtain⟨u,hu,he'⟩:=qq0.1 h;simp only[Prod.mk.injEq]at he';obtain⟨rfl,rfl⟩:=he';exact Did.of_same hw (qfa (ex x) hu)
 case indexAddr t x i=>
  obtain⟨u,hu,he'⟩:=qq0.1 h;simp only[Prod.mk.injEq]at he';obtain⟨rfl,rfl⟩:=he';exact Did.of_same hw (Wj hw (ex x) (ex i) hu)
 case index t x i=>
  obtain⟨u,hu,he'⟩:=qq0.1 h;simp only[Prod.mk.injEq]at he';obtain⟨rfl,rfl⟩:=he';exact Did.of_same hw (qe0 (ex x) (ex i) hu)
 case lookup t x i ok=>
  obtain⟨u,hu,he'⟩:=qq0.1 h;simp only[Prod.mk.injEq]at he';obtain⟨rfl,rfl⟩:=he';exact Did.of_same hw (qcM hw (ex x) (ex i) hu)
 case mapUpdate t m k x=>
  obtain⟨u,hu,he'⟩:=qq0.1 h;simp only[Prod.mk.injEq]at he';obtain⟨rfl,rfl⟩:=he';exact Did.of_unit (QP hw (ex m) (ex k) (ex x) hu)
 case range t x=>
  have hx:=ex x;split at h
  . rename_i i s hD hxs;obtain⟨inf,d,z,hi,hu,_,rfl⟩:=qB hD;simp only at h;split at h
    . rename_i hd;have:=QD hd;subst this;simp only[Option.some.injEq,Prod.mk.injEq]at h;obtain⟨rfl,rfl⟩:=h;rw[hxs]at hx;exact Did.of_ran (qeB hw hu hx)
    . cases h
  . rename_i i b hD hxs;obtain⟨inf,d,z,hi,hu,_,rfl⟩:=qB hD;simp only at h;split at h
    . rename_i kt et es clock hd hb;have:=Kq hd;subst this;simp only[Option.some.injEq,Prod.mk.injEq]at h;obtain⟨rfl,rfl⟩:=h;rw[hxs]at hx;exact Did.of_ran (qcK hw hu hx hb)
    . cases h
  . rename_i i hD hxs;obtain⟨inf,d,z,hi,hu,_,rfl⟩:=qB hD;simp only at h;split at h
    . rename_i kt et hd;have:=Kq hd;subst this;simp only[Option.some.injEq,Prod.mk.injEq]at h;obtain⟨rfl,rfl⟩:=h;rw[hxs]at hx;exact Did.of_ran (qhY hw hu hx)
    . cases h
  . cases h
 case next it b=>
  cases b with
  | false=>cases h
  | true=>
   simp only at h;exact Did.of_ran (qhU hw (ex it) h)
 case extract x i=>
  obtain⟨u,hu,he'⟩:=qq0.1 h;simp only[Prod.mk.injEq]at he';obtain⟨rfl,rfl⟩:=he';exact Did.of_same hw (qbv (ex x) hu)
 case call c=>
  obtain⟨callee,args,argTypes⟩:=c;cases callee<;>simp only at h<;>try (cases h;done)
  rename_i b;have ha:=Zd hw he args.toList;unfold zM at h;split at h
  . rename_i t x hts hvs;obtain⟨u,hu,he'⟩:=qq0.1 h;simp only[Prod.mk.injEq]at he';obtain⟨rfl,rfl⟩:=he';rw[hvs]at ha;simp only[qk]at ha;obtain⟨v1,vr,e1,h1,rfl⟩:=ha;have eargs:args.map a.eval = #[v1]:=(by apply Array.ext';simpa using e1);have ets:argTypes = #[t]:=(by apply Array.ext';simpa using hts);have:=qkm hw h1 type hu;obtain⟨v',r1,r2⟩:=this;exact⟨v',w,K,.inl (by simp[execOp,resolve,invoke,builtin,eargs,ets,r1]),Kn.le_refl K,hw,r2⟩
  . rename_i t u x y hts hvs;split at h
    . rename_i hut;subst hut;rw[hvs]at ha;simp only[qk]at ha;obtain⟨v1,vr,e1,h1,v2,vr2,e2,h2,rfl⟩:=ha;have eargs:args.map a.eval = #[v1,v2]:=(by apply Array.ext';simpa[e2] using e1);have ets:argTypes = #[u,u]:=(by apply Array.ext';simpa using hts);obtain⟨v',w',K',r1,r2,r3,r4⟩:=qdV hw h1 h2 type h;exact⟨v',w',K',.inl (by simp[execOp,resolve,invoke,builtin,eargs,ets,r1]),r2,r3,r4⟩
    . cases h
  . rename_i x y hvs;obtain⟨u,hu,he'⟩:=qq0.1 h;simp only[Prod.mk.injEq]at he';obtain⟨rfl,rfl⟩:=he';rw[hvs]at ha;simp only[qk]at ha;obtain⟨v1,vr,e1,h1,v2,vr2,e2,h2,rfl⟩:=ha;have eargs:args.map a.eval = #[v1,v2]:=(by apply Array.ext';simpa[e2] using e1);obtain⟨v',r1,r2⟩:=qke (P:=P) (w:=w) h1 h2 argTypes type hu;exact⟨v',w,K,.inl (by simp[execOp,resolve,invoke,builtin,eargs,r1]),Kn.le_refl K,hw,r2⟩
  . rename_i x y hvs;obtain⟨u,hu,he'⟩:=qq0.1 h;simp only[Prod.mk.injEq]at he';obtain⟨rfl,rfl⟩:=he';rw[hvs]at ha;simp only[qk]at ha;obtain⟨v1,vr,e1,h1,v2,vr2,e2,h2,rfl⟩:=ha;have eargs:args.map a.eval = #[v1,v2]:=(by apply Array.ext';simpa[e2] using e1);obtain⟨v',r1,r2⟩:=qkf (P:=P) (w:=w) h1 h2 argTypes type hu;exact⟨v',w,K,.inl (by simp[execOp,resolve,invoke,builtin,eargs,r1]),Kn.le_refl K,hw,r2⟩
  . cases h
 all_goals (first | (cases h;done) | (split at h<;>cases h))
end
end
mutual
def zg:AV->Bool
 | .ptr .. | .ms .. | .map _ | .iter _ | .any=>false
 | .rptr c=>qu c
 | .sl _ rows tok=>(match tok with | .chain .. =>false | _=>true)&&zp rows
 | .fn _ a b=>qu a&&qu b
 | .agg c=>qu c
 | .tup c=>qu c
 | _=>true
def qu:List AV->Bool
 | []=>true
 | a::r=>zg a&&qu r
def zp:List (List AV)->Bool
 | []=>true
 | a::r=>qu a&&zp r
end
theorem qcF:∀ l,qu l=l.all zg
 | []=>rfl
 | a::r=>by simp[qu,qcF r]
theorem VU:∀ l,zp l=l.all (·.all zg)
 | []=>rfl
 | a::r=>by simp[zp,VU r,qcF]
mutual
theorem qj.toK0 {K:Kn}:∀ (a:AV) {v:Value},zg a=true->qj K a v->qj (K0 K.ro) a v
 | .any,_,h,_=>by simp[zg]at h
 | .bool b,_,_,x=>by simpa[qj] using x
 | .int k n,_,_,x=>by simpa[qj] using x
 | .str s,_,_,x=>by simpa[qj] using x
 | .nilp,_,_,x=>by simpa[qj] using x
 | .ptr b off,_,h,x=>by simp[zg]at h
 | .rptr c,_,h,x=>by
  simp only[qj,zg]at h x ⊢;obtain⟨B,off,h1,h2⟩:=x;exact⟨B,off,h1,qp.toK0 c B off h h2⟩
 | .sl sz rows tok,_,h,x=>by
  simp only[qj,zg,qq1]at h x ⊢;rcases x with x|⟨B,off,cap,h1,h2,h3,h4⟩
  . exact .inl x
  . refine .inr ⟨B,off,cap,h1,h2,qW.toK0 rows B off sz h.2 h3,?_⟩;cases tok<;>simp_all[Qq]
 | .ms b off len sz,_,h,x=>by simp[zg]at h
 | .nilm,_,_,x=>by simpa[qj] using x
 | .map b,_,h,x=>by simp[zg]at h
 | .iter b,_,h,x=>by simp[zg]at h
 | .fn f a b,_,h,x=>by
  simp only[qj,zg,qq1]at h x ⊢;obtain⟨va,vb,h1,h2,h3⟩:=x;exact⟨va,vb,h1,qk.toK0 a h.1 h2,qk.toK0 b h.2 h3⟩
 | .nilf,_,_,x=>by simpa[qj] using x
 | .agg c,_,h,x=>by
  simp only[qj,zg]at h x ⊢;obtain⟨vs,h1,h2⟩:=x;exact⟨vs,h1,qk.toK0 c h h2⟩
 | .tup c,_,h,x=>by
  simp only[qj,zg]at h x ⊢;obtain⟨vs,h1,h2⟩:=x;exact⟨vs,h1,qk.toK0 c h h2⟩
theorem qk.toK0 {K:Kn}:∀ (l:List AV) {vs:List Value},qu l=true->qk K l vs->qk (K0 K.ro) l vs
 | [],_,_,x=>by simpa[qk] using x
 | a::r,_,h,x=>by
  simp only[qk,qu,qq1]at h x ⊢;obtain⟨v,vr,h1,h2,h3⟩:=x;exact⟨v,vr,h1,qj.toK0 a h.1 h2,qk.toK0 r h.2 h3⟩
theorem qp.toK0 {K:Kn}:∀ (l:List AV) (B off:Nat),qu l=true->qp K B off l->qp (K0 K.ro) B off l
 | [],_,_,_,_=>by simp[qp]
 | a::r,B,off,h,x=>by
  simp only[qp,qu,qq1]at h x ⊢;obtain⟨⟨v,h1,h2⟩,h3⟩:=x;exact⟨⟨v,h1,qj.toK0 a h.1 h2⟩,qp.toK0 r _ _ h.2 h3⟩
theorem qW.toK0 {K:Kn}:∀ (l:List (List AV)) (B off sz:Nat),zp l=true->qW K B off sz l->qW (K0 K.ro) B off sz l
 | [],_,_,_,_,_=>by simp[qW]
 | a::r,B,off,sz,h,x=>by
  simp only[qW,zp,qq1]at h x ⊢;obtain⟨⟨h1,h0,h2⟩,h3⟩:=x;exact⟨⟨h1,h0,qp.toK0 a _ _ h.1 h2⟩,qW.toK0 r _ _ _ h.2 h3⟩
end
end Go.Abs
end
section
namespace Go.Abs
open Go Go.RowKit
def pl1:AV->AV
 | .sl sz rows (.chain _ _)=>.sl sz rows .none
 | v=>v
def pl2:AV->AV
 | .agg c=>.agg (c.map pl1)
 | v=>pl1 v
def plain:AV->AV
 | .tup c=>.tup (c.map pl2)
 | v=>pl2 v
def vE (sz:Nat):Nat->List AV->List (List AV)
 | 0,_=>[]
 | n+1,c=>c.take sz::vE sz n (c.drop sz)
def ze (H:List Blk):AV->AV
 | .ms b off len sz=>match H[b]? with
  | some (.cells c)=>if off+len*sz<=c.length then .sl sz (vE sz len (c.drop off)) .none else .any
  | _=>.any
 | v=>pl1 v
def zh (H:List Blk):AV->AV
 | .agg c=>.agg (c.map (ze H))
 | v=>ze H v
def fin (H:List Blk):AV->AV
 | .tup c=>.tup (c.map (zh H))
 | v=>zh H v
theorem qeJ {K:Kn}{v:Value}:∀ {a:AV},qj K a v->qj K (pl1 a) v:=by
 intro a h;unfold pl1;split
 . rename_i sz rows t k;simp only[qj]at h ⊢;rcases h with ⟨_,_,h⟩|⟨B,off,cap,h1,h2,h3,_⟩
   . exact h.elim
   . exact .inr ⟨B,off,cap,h1,h2,h3,trivial⟩
 . exact h
theorem qk.mapRel {K K':Kn}{f:AV->AV}(hf:∀ a v,qj K a v->qj K' (f a) v):∀ (l:List AV) {vs:List Value},qk K l vs->qk K' (l.map f) vs
 | [],_,h=>by simpa[qk] using h
 | a::r,_,h=>by
  simp only[qk,qqZ]at h ⊢;obtain⟨v,vr,h1,h2,h3⟩:=h;exact⟨v,vr,h1,hf a v h2,qk.mapRel hf r h3⟩
theorem qjW {K:Kn}{v:Value}:∀ {a:AV},qj K a v->qj K (pl2 a) v:=by
 intro a h;unfold pl2;split
 . simp only[qj]at h ⊢;obtain⟨vs,h1,h2⟩:=h;exact⟨vs,h1,qk.mapRel (fun _ _=>qeJ) _ h2⟩
 . exact qeJ h
theorem qjU {K:Kn}{v:Value}:∀ {a:AV},qj K a v->qj K (plain a) v:=by
 intro a h;unfold plain;split
 . simp only[qj]at h ⊢;obtain⟨vs,h1,h2⟩:=h;exact⟨vs,h1,qk.mapRel (fun _ _=>qjW) _ h2⟩
 . exact qjW h
theorem Yi (sz:Nat):∀ (n:Nat) (c:List AV),n*sz<=c.length->(vE sz n c).length=n/\∀ (i:Nat) (r:List AV),(vE sz n c)[i]?=some r->r=(c.drop (i*sz)).take sz/\i<n
 | 0,c,_=>⟨rfl,by simp[vE]⟩
 | n+1,c,h=>by
  rw[qrS]at h;obtain⟨h1,h2⟩:=Yi sz n (c.drop sz) (by simp;omega);refine⟨by simp[vE,h1],fun i r e=>?_⟩
  cases i with
  | zero=>simp[vE]at e;subst e;simp
  | succ i=>
   simp only[vE,qsR]at e;obtain⟨h3,h4⟩:=h2 i r e;refine⟨?_,by omega⟩;rw[h3,List.drop_drop,qrS,Nat.one_mul,qtl sz]
section
variable {P:Program}{G:Nat->AV}{w0:World}{ro0:Nat->Nat->Option Value}{K:Kn}{O:St}{w w':World}
open Classical in
noncomputable def QH (w0 w:World)(ro:Nat->Nat->Option Value):Nat->Nat->Option Value :=
 fun b o=>match ro b o with
  | some v=>some v
  | none=>if w0.heap.size<=b then w.cell? ⟨b,o,none⟩ else none
theorem qaL (w0 w:World)(ro:Nat->Nat->Option Value)(b o:Nat)(v:Value)(h:ro b o=some v):QH w0 w ro b o=some v:=by simp[QH,h]
theorem Kn.le_end (K:Kn)(w0 w:World):K.le { K with ro:=QH w0 w K.ro } :=
 ⟨fun b o v e=>qaL w0 w K.ro b o v e,fun _ _ e=>e,qrn _,fun t C _ e=>⟨C,e,.inl rfl⟩,fun _ _ _=>rfl,fun _ _ e=>e,fun _ _ e=>e⟩
theorem WRel.end_ro (h:WRel G w0 ro0 K O w):(∀ b o v,QH w0 w K.ro b o=some v->w.cell? ⟨b,o,none⟩=some v)/\(∀ b o v,QH w0 w K.ro b o=some v->b<w0.heap.size->ro0 b o=some v):=by
 constructor
 . intro b o v e;simp only[QH]at e;split at e
   . rename_i u hu;cases e;exact h.ro _ _ _ hu
   . split at e
     . exact e
     . cases e
 . intro b o v e hb;simp only[QH]at e;split at e
   . rename_i u hu;cases e;exact h.new _ _ _ hu hb
   . rw[if_neg (by omega)]at e;cases e
theorem qgK (h:WRel G w0 ro0 K O w){a:AV}{v:Value}(ha:qj K a v):qj { K with ro:=QH w0 w K.ro } (ze O.H a) v:=by
 have hle:=Kn.le_end K w0 w;unfold ze;split
 . rename_i b off len sz;split
   . rename_i c hb;split
     . rename_i hl;simp only[qj]at ha ⊢;obtain⟨B,cap,hm,rfl,h1,h2⟩:=ha;obtain⟨B',g1,g2,g3,⟨cs,el,g4,g5,g6,g7⟩,g8⟩:=h.blk b _ hb;rw[hm]at g1;cases g1;obtain⟨k1,k2⟩:=Yi sz len (c.drop off) (by simp;omega);refine .inr ⟨B,off,cap,by rw[k1],by rw[k1];exact h1,qW.intro B sz _ off fun i r e=>?_,trivial⟩;obtain⟨e1,e2⟩:=k2 i r e;have hmul:(i+1)*sz<=len*sz:=qrJ _ (by omega);rw[qrS,Nat.one_mul]at hmul;refine⟨by rw[e1];simp;omega,?_,qp.intro B r _ fun j x ex=>?_⟩
       . rw[qq7]at g5 ⊢;intro x hx;rw[e1]at hx;exact g5 x (qsC (qsC (qs1 hx)))
       . rw[e1,qrL]at ex;split at ex
         . rw[qrR,qrR]at ex;obtain⟨u,u1,u2⟩:=g7 _ _ ex;refine⟨u,?_,u2.mono hle⟩;show QH w0 w K.ro B (off+i*sz+j)=some u;simp only[QH,g8];rw[if_pos g2];simp only[World.cell?,g4];simpa[qs3] using u1
         . cases ex
     . simp[qj]
   . simp[qj]
 . exact (qeJ ha).mono hle
theorem qgJ (h:WRel G w0 ro0 K O w){a:AV}{v:Value}(ha:qj K a v):qj { K with ro:=QH w0 w K.ro } (zh O.H a) v:=by
 unfold zh;split
 . simp only[qj]at ha ⊢;obtain⟨vs,h1,h2⟩:=ha;exact⟨vs,h1,qk.mapRel (fun _ _=>qgK h) _ h2⟩
 . exact qgK h ha
theorem qqt (h:WRel G w0 ro0 K O w){a:AV}{v:Value}(ha:qj K a v):qj { K with ro:=QH w0 w K.ro } (fin O.H a) v:=by
 unfold fin;split
 . simp only[qj]at ha ⊢;obtain⟨vs,h1,h2⟩:=ha;exact⟨vs,h1,qk.mapRel (fun _ _=>qgJ h) _ h2⟩
 . exact qgJ h ha
end
def bodied (P : Program) (g : FuncId) : Bool := P.funcs[g]?.any (fun fn => fn.body.isSome && fn.name != "runtime.NumGoroutine")
def Pure (P:Program)(G:Nat->AV)(f:FuncId)(args:List AV)(r:AV):Prop :=
 bodied P f=true/\∀ (w0:World) (ro:Nat->Nat->Option Value) (vs:Array Value),(∀ g,qj (K0 ro) (G g) (.pointer (some ⟨g,0,none⟩)))->(∀ b o v,ro b o=some v->w0.cell? ⟨b,o,none⟩=some v)->qk (K0 ro) args vs.toList ->
  Calls P f vs w0 fun e w'=>∃ v ro',e=.returned v/\Below w0.heap.size w0 w'/\(∀ b o v,ro b o=some v->ro' b o=some v)/\(∀ b o v,ro' b o=some v->w'.cell? ⟨b,o,none⟩=some v) /\
   (∀ b o v,ro' b o=some v->b<w0.heap.size->ro b o=some v)/\qj (K0 ro') r v
def mark (D:Nat):Deferred:={ target:=.collected D,args:=#[] }
def Dfr (K:Kn)(ds:List Deferred)(K':Kn)(ds':List Deferred):Prop :=
 ∃ Ds:List Nat,Ds.Nodup/\ds'=Ds.map mark++ds/\∀ D∈Ds,K.fx D=none/\K'.fx D=some (.deferred (some []))
theorem Dfr.same {K K':Kn}{ds ds':List Deferred}(h:ds'=ds):Dfr K ds K' ds':=⟨[],List.nodup_nil,by simp[h],by simp⟩
theorem Dfr.trans {K K1 K2:Kn}{ds ds1 ds2:List Deferred}(h1:K.le K1)(h2:K1.le K2)(a:Dfr K ds K1 ds1)(b:Dfr K1 ds1 K2 ds2):Dfr K ds K2 ds2:=by
 obtain⟨D1,n1,e1,f1⟩:=a;obtain⟨D2,n2,e2,f2⟩:=b;refine⟨D2++D1,?_,by rw[e2,e1];simp,fun D hD=>?_⟩
 . refine qsc.2 ⟨n2,n1,fun x hx y hy e=>?_⟩;subst e;have:=(f2 x hx).1;rw[(f1 x hy).2]at this;cases this
 . rcases qre.1 hD with hD|hD
   . obtain⟨g1,g2⟩:=f2 D hD;refine⟨?_,g2⟩
     cases e:K.fx D with
     | none=>rfl
     | some o=>rw[h1.fx D o e]at g1;cases g1
   . obtain⟨g1,g2⟩:=f1 D hD;exact⟨g1,h2.fx _ _ g2⟩
def Yp (G:Nat->AV)(w0:World)(ro0:Nat->Nat->Option Value)(K:Kn)(N:Nat)(ds:List Deferred)(Q:Exit->Env->St->Prop):Exit->Act->World->Prop :=
 fun e a w=>∃ K' env O,K.le K'/\WRel G w0 ro0 K' O w/\ERel K' N env a/\Dfr K ds K' a.defers/\Q e env O
def AWp (P:Program)(G:Nat->AV)(N:Nat)(c:Code)(env:Env)(O:St)(Q:Exit->Env->St->Prop):Prop :=
 ∀ (w0:World) (ro0:Nat->Nat->Option Value) (K:Kn) (a:Act) (w:World),WRel G w0 ro0 K O w->ERel K N env a->c.wp P (Yp G w0 ro0 K N a.defers Q) a w
def qq (P:Program)(G:Nat->AV)(f:FuncId)(args:List AV)(O:St)(Q:AV->St->Prop):Prop :=
 bodied P f=true/\∀ (w0:World) (ro0:Nat->Nat->Option Value) (K:Kn) (w:World) (vs:Array Value),WRel G w0 ro0 K O w->qk K args vs.toList ->
  Calls P f vs w fun e w'=>∃ v' v O' K',e=.returned v'/\K.le K'/\WRel G w0 ro0 K' O' w'/\qj K' v v'/\Q v O'
section
variable {P:Program}{G:Nat->AV}{N:Nat}{env:Env}{O:St}{Q:Exit->Env->St->Prop}
theorem Yp.mono {w0:World}{ro0:Nat->Nat->Option Value}{K:Kn}{ds:List Deferred}{Q':Exit->Env->St->Prop}{e:Exit}{a:Act}{w:World}(h:Yp G w0 ro0 K N ds Q e a w)(hq:∀ e env O,Q e env O->Q' e env O):Yp G w0 ro0 K N ds Q' e a w:=by
 obtain⟨K',env',O',h1,h2,h3,hd,h4⟩:=h;exact⟨K',env',O',h1,h2,h3,hd,hq _ _ _ h4⟩
theorem AWp.mono {c:Code}{Q':Exit->Env->St->Prop}(h:AWp P G N c env O Q)(hq:∀ e env O,Q e env O->Q' e env O):AWp P G N c env O Q' :=
 fun w0 ro0 K a w hw he=>wp_mono (h w0 ro0 K a w hw he) fun e a w x=>x.mono hq
theorem AWp.skip (h:Q .normal env O):AWp P G N .skip env O Q:=fun w0 ro0 K a w hw he=>wp_skip ⟨K,env,O,Kn.le_refl K,hw,he,.same rfl,h⟩
theorem AWp.ret (h:Q .ret env O):AWp P G N .ret env O Q:=fun w0 ro0 K a w hw he=>wp_ret ⟨K,env,O,Kn.le_refl K,hw,he,.same rfl,h⟩
theorem AWp.exit {id:Nat}(h:Q (.exit id) env O):AWp P G N (.exit id) env O Q:=fun w0 ro0 K a w hw he=>wp_exit ⟨K,env,O,Kn.le_refl K,hw,he,.same rfl,h⟩
def vW (next:Env->St->Prop)(Q:Exit->Env->St->Prop):Exit->Env->St->Prop
 | .normal,env,O=>next env O
 | e,env,O=>Q e env O
theorem Yp.after {w0:World}{ro0:Nat->Nat->Option Value}{K K':Kn}(hle:K.le K'){ds ds':List Deferred}(hd:Dfr K ds K' ds'){e:Exit}{a:Act}{w:World}(h:Yp G w0 ro0 K' N ds' Q e a w):Yp G w0 ro0 K N ds Q e a w:=by
 obtain⟨K1,env',O',h1,h2,h3,hd',h4⟩:=h;exact⟨K1,env',O',Kn.le_trans hle h1,h2,h3,hd.trans hle h1 hd',h4⟩
theorem AWp.seq {x y:Code}(h:AWp P G N x env O (vW (fun env O=>AWp P G N y env O Q) Q)):AWp P G N (.seq x y) env O Q:=by
 intro w0 ro0 K a w hw he;refine wp_seq (wp_mono (h w0 ro0 K a w hw he) ?_);intro e a' w' hp;obtain⟨K',env',O',h1,h2,h3,hd,h4⟩:=hp
 cases e with
 | normal=>exact wp_mono (h4 w0 ro0 K' a' w' h2 h3) fun e a w x=>x.after h1 hd
 | exit id=>exact⟨K',env',O',h1,h2,h3,hd,h4⟩
 | goto l=>exact⟨K',env',O',h1,h2,h3,hd,h4⟩
 | ret=>exact⟨K',env',O',h1,h2,h3,hd,h4⟩
 | panic c=>exact⟨K',env',O',h1,h2,h3,hd,h4⟩
 | outgrown=>exact⟨K',env',O',h1,h2,h3,hd,h4⟩
theorem AWp.cond {c:Operand}{x y:Code}{b:Bool}(hc:ev G env c=.bool b)(ht:b=true->AWp P G N x env O Q)(hf:b=false->AWp P G N y env O Q):AWp P G N (.cond c x y) env O Q:=by
 intro w0 ro0 K a w hw he;have:=ZD hw he c;rw[hc]at this;simp only[qj]at this;exact wp_cond_split this (fun e=>ht e w0 ro0 K a w hw he) (fun e=>hf e w0 ro0 K a w hw he)
def vX (id:Nat)(Q:Exit->Env->St->Prop):Exit->Env->St->Prop
 | .exit id',env,O=>if id'=id then Q .normal env O else Q (.exit id') env O
 | e,env,O=>Q e env O
theorem AWp.block {id:Nat}{c:Code}(h:AWp P G N c env O (vX id Q)):AWp P G N (.block id c) env O Q:=by
 intro w0 ro0 K a w hw he;refine wp_block (wp_mono (h w0 ro0 K a w hw he) ?_);intro e a' w' hp;obtain⟨K',env',O',h1,h2,h3,hd,h4⟩:=hp
 cases e with
 | exit id'=>
  simp only[vX]at h4;simp only[Exit.inBlock];split
  . rename_i e;rw[if_pos e]at h4;exact⟨K',env',O',h1,h2,h3,hd,h4⟩
  . rename_i e;rw[if_neg e]at h4;exact⟨K',env',O',h1,h2,h3,hd,h4⟩
 | normal=>exact⟨K',env',O',h1,h2,h3,hd,h4⟩
 | goto l=>exact⟨K',env',O',h1,h2,h3,hd,h4⟩
 | ret=>exact⟨K',env',O',h1,h2,h3,hd,h4⟩
 | panic c=>exact⟨K',env',O',h1,h2,h3,hd,h4⟩
 | outgrown=>exact⟨K',env',O',h1,h2,h3,hd,h4⟩
theorem AWp.loop {c:Code}(I:Nat->Env->St->Prop)(n₀:Nat)(h₀:I n₀ env O)
 (round:∀ n env O,I n env O->AWp P G N c env O (vW (fun env' O'=>∃ n',n' < n/\I n' env' O') Q)):AWp P G N (.loop c) env O Q:=by
 intro w0 ro0 K a w hw he;refine wp_loop_ghost (fun n X w=>∃ K' env' O',K.le K'/\WRel G w0 ro0 K' O' w/\ERel K' N env' X/\Dfr K a.defers K' X.defers/\I n env' O') n₀ ⟨K,env,O,Kn.le_refl K,hw,he,.same rfl,h₀⟩ ?_;intro n a' w' hI;obtain⟨K',env',O',h1,h2,h3,hd,h4⟩:=hI;refine wp_mono (round n env' O' h4 w0 ro0 K' a' w' h2 h3) ?_;intro e a2 w2 hp;obtain⟨K2,env2,O2,g1,g2,g3,gd,g4⟩:=hp;have gd:=hd.trans h1 g1 gd
 cases e with
 | normal=>
  obtain⟨n',hn,hi⟩:=g4;exact⟨n',hn,K2,env2,O2,Kn.le_trans h1 g1,g2,g3,gd,hi⟩
 | exit id=>exact⟨K2,env2,O2,Kn.le_trans h1 g1,g2,g3,gd,g4⟩
 | goto l=>exact⟨K2,env2,O2,Kn.le_trans h1 g1,g2,g3,gd,g4⟩
 | ret=>exact⟨K2,env2,O2,Kn.le_trans h1 g1,g2,g3,gd,g4⟩
 | panic c=>exact⟨K2,env2,O2,Kn.le_trans h1 g1,g2,g3,gd,g4⟩
 | outgrown=>exact⟨K2,env2,O2,Kn.le_trans h1 g1,g2,g3,gd,g4⟩
end
end Go.Abs
end
section
namespace Go.Abs
open Go Go.RowKit
section
def frz (H:List Blk):Nat->AV->AV
 | 0,v=>if zg v then v else .any
 | n+1,v=>if zg v then v else match v with
  | .ptr b off=>match H[b]? with
   | some (.cells c)=>.rptr ((c.drop off).map (frz H n))
   | _=>.any
  | .ms b off len sz=>match H[b]? with
   | some (.cells c)=>if off+len*sz<=c.length/\((vE sz len (c.drop off)).map (·.map (frz H n))).all (·.all AV.atom)=true then .sl sz ((vE sz len (c.drop off)).map (·.map (frz H n))) .none else .any
   | _=>.any
  | .rptr c=>.rptr (c.map (frz H n))
  | .sl sz rows _=>if (rows.map (·.map (frz H n))).all (·.all AV.atom)=true then .sl sz (rows.map (·.map (frz H n))) .none else .any
  | .fn f a b=>.fn f (a.map (frz H n)) (b.map (frz H n))
  | .agg c=>.agg (c.map (frz H n))
  | .tup c=>.tup (c.map (frz H n))
  | _=>.any
section
variable {P:Program}{G:Nat->AV}{w0:World}{ro0:Nat->Nat->Option Value}{K:Kn}{O:St}{w w':World}
theorem qp.mapRel {K K':Kn}(hro:∀ b o v,K.ro b o=some v->K'.ro b o=some v){f:AV->AV}(hf:∀ a v,qj K a v->qj K' (f a) v):∀ (c:List AV) {B off:Nat},qp K B off c->qp K' B off (c.map f)
 | [],_,_,_=>by simp[qp]
 | a::r,B,off,h=>by
  simp only[qp,qqZ]at h ⊢;obtain⟨⟨v,h1,h2⟩,h3⟩:=h;exact⟨⟨v,hro _ _ _ h1,hf a v h2⟩,qp.mapRel hro hf r h3⟩
theorem qW.mapRel {K K':Kn}(hro:∀ b o v,K.ro b o=some v->K'.ro b o=some v){f:AV->AV}(hf:∀ a v,qj K a v->qj K' (f a) v):∀ (c:List (List AV)) {B off sz:Nat},(c.map (·.map f)).all (·.all AV.atom)=true->qW K B off sz c->qW K' B off sz (c.map (·.map f))
 | [],_,_,_,_,_=>by simp[qW]
 | a::r,B,off,sz,ha,h=>by
  simp only[qW,qqZ,qsd,qq1]at h ha ⊢;obtain⟨⟨h1,h2,h3⟩,h4⟩:=h;exact⟨⟨by simpa using h1,ha.1,qp.mapRel hro hf a h3⟩,qW.mapRel hro hf r ha.2 h4⟩
def qet (w:World):Nat->Nat->Option Value:=fun b o=>w.cell? ⟨b,o,none⟩
theorem qkL (h:WRel G w0 ro0 K O w){ro':Nat->Nat->Option Value}(hro:∀ b o v,K.ro b o=some v->ro' b o=some v)(hnew:∀ B o v,w0.heap.size<=B->K.ro B o=none->w.cell? ⟨B,o,none⟩=some v->ro' B o=some v) :
 ∀ (n:Nat) {a:AV} {v:Value},qj K a v->qj (K0 ro') (frz O.H n a) v:=by
 have base:∀ {a:AV} {v:Value},zg a=true->qj K a v->qj (K0 ro') a v:=fun hn hv=>(qj.toK0 _ hn hv).mono (qg0 hro)
 intro n
 induction n with
 | zero=>
  intro a v hv;unfold frz;split
  . rename_i hn;exact base hn hv
  . simp[qj]
 | succ n ih=>
  intro a v hv;unfold frz;split
  . rename_i hn;exact base hn hv
  . cases a with
    | ptr b off=>
     simp only;split
     . rename_i c hb;simp only[qj]at hv ⊢;obtain⟨B,hm,rfl⟩:=hv;obtain⟨B',g1,g2,g3,⟨cs,el,g4,g5,g6,g7⟩,g8⟩:=h.blk b _ hb;rw[hm]at g1;cases g1;refine⟨B,off,rfl,qp.intro B _ _ fun i x e=>?_⟩;rw[qrw,qq0]at e;obtain⟨y,e1,rfl⟩:=e;rw[qrR]at e1;obtain⟨u,u1,u2⟩:=g7 _ _ e1;refine⟨u,hnew _ _ _ g2 (g8 _) ?_,ih u2⟩;simp only[World.cell?,g4];exact u1
     . simp[qj]
    | ms b off len sz=>
     simp only;split
     . rename_i c hb;split
       . rename_i hl;obtain⟨hl,hat⟩:=hl;simp only[qj]at hv ⊢;obtain⟨B,cap,hm,rfl,h1,h2⟩:=hv;obtain⟨B',g1,g2,g3,⟨cs,el,g4,g5,g6,g7⟩,g8⟩:=h.blk b _ hb;rw[hm]at g1;cases g1;obtain⟨k1,k2⟩:=Yi sz len (c.drop off) (by simp;omega);refine .inr ⟨B,off,cap,by simp[k1],by simpa[k1] using h1,qW.intro B sz _ off fun i r e=>?_,trivial⟩;have hatr:=qq7.1 hat r (qqW e);rw[qrw,qq0]at e;obtain⟨r0,e0,rfl⟩:=e;obtain⟨e1,e2⟩:=k2 i r0 e0;have hmul:(i+1)*sz<=len*sz:=qrJ _ (by omega);rw[qrS,Nat.one_mul]at hmul;refine⟨by rw[e1];simp;omega,hatr,qp.intro B _ _ fun j x ex=>?_⟩;rw[qrw,qq0]at ex;obtain⟨y,ey,rfl⟩:=ex;rw[e1,qrL]at ey;split at ey
         . rw[qrR,qrR]at ey;obtain⟨u,u1,u2⟩:=g7 _ _ ey;refine⟨u,hnew _ _ _ g2 (g8 _) ?_,ih u2⟩;simp only[World.cell?,g4];simpa[qs3] using u1
         . cases ey
       . simp[qj]
     . simp[qj]
    | rptr c=>
     simp only[qj]at hv ⊢;obtain⟨B,off,h1,h2⟩:=hv;exact⟨B,off,h1,qp.mapRel hro (fun a v=>ih) c h2⟩
    | sl sz rows tok=>
     simp only;split
     . rename_i hat;simp only[qj]at hv ⊢;rcases hv with ⟨h1,h2,h3⟩|⟨B,off,cap,h1,h2,h3,h4⟩
       . subst h2;obtain⟨a0,h1,_⟩:=h1;exact .inl ⟨⟨a0,h1,.inr trivial⟩,rfl,trivial⟩
       . exact .inr ⟨B,off,cap,by simpa using h1,by simpa using h2,qW.mapRel hro (fun a v=>ih) rows hat h3,trivial⟩
     . simp[qj]
    | fn f a b=>
     simp only[qj]at hv ⊢;obtain⟨va,vb,h1,h2,h3⟩:=hv;exact⟨va,vb,h1,qk.mapRel (fun a v=>ih) a h2,qk.mapRel (fun a v=>ih) b h3⟩
    | agg c=>
     simp only[qj]at hv ⊢;obtain⟨vs,h1,h2⟩:=hv;exact⟨vs,h1,qk.mapRel (fun a v=>ih) c h2⟩
    | tup c=>
     simp only[qj]at hv ⊢;obtain⟨vs,h1,h2⟩:=hv;exact⟨vs,h1,qk.mapRel (fun a v=>ih) c h2⟩
    | _=>simp[qj]
theorem qqp (h:WRel G w0 ro0 K O w)(n:Nat){a:AV}{v:Value}(hv:qj K a v):qj (K0 (qet w)) (frz O.H n a) v :=
 qkL h (ro':=qet w) (fun b o v e=>h.ro b o v e) (fun _ _ _ _ _ e=>e) n hv
theorem qqq (h:WRel G w0 ro0 K O w)(n:Nat){a:AV}{v:Value}(hv:qj K a v):qj (K0 (QH w0 w K.ro)) (frz O.H n a) v :=
 qkL h (ro':=QH w0 w K.ro) (fun b o v e=>qaL _ _ _ _ _ _ e) (fun B o v hb hr e=>by simp only[QH,hr];rw[if_pos hb];exact e) n hv
def qqr:AV->Bool
 | .bool _ | .int .. | .str _ | .nilp | .nilm | .nilf=>true
 | .sl _ rows tok=>rows.isEmpty&&(match tok with | .chain .. =>false | _=>true)
 | _=>false
def flat:AV->Bool
 | .agg c=>c.all qqr
 | .tup c=>c.all qqr
 | v=>qqr v
def qix:AV->Bool
 | .bool _ | .int .. | .str _ | .nilp | .nilm | .nilf=>true
 | _=>false
def bare:AV->Bool
 | .agg c=>c.all qix
 | .tup c=>c.all qix
 | v=>qix v
theorem qdR {K K':Kn}{a:AV}{v:Value}(hf:qix a=true)(h:qj K a v):qj K' a v:=by
 cases a<;>simp only[qix]at hf<;>first | (cases hf;done) | simpa[qj] using h
theorem W2 {K K':Kn}:∀ (l:List AV) {vs:List Value},l.all qix=true->qk K l vs->qk K' l vs
 | [],_,_,h=>by simpa[qk] using h
 | a::r,_,hf,h=>by
  simp only[qk,qsd,qq1]at h hf ⊢;obtain⟨v,vr,h1,h2,h3⟩:=h;exact⟨v,vr,h1,qdR hf.1 h2,W2 r hf.2 h3⟩
theorem qn3 {K K':Kn}{a:AV}{v:Value}(hf:bare a=true)(h:qj K a v):qj K' a v:=by
 unfold bare at hf;split at hf
 . simp only[qj]at h ⊢;obtain⟨vs,h1,h2⟩:=h;exact⟨vs,h1,W2 _ hf h2⟩
 . simp only[qj]at h ⊢;obtain⟨vs,h1,h2⟩:=h;exact⟨vs,h1,W2 _ hf h2⟩
 . exact qdR hf h
def Zw (P:Program)(G:Nat->AV)(g:FuncId)(args:List AV)(O:St)(r:AV):Prop :=
 (qu (args.map plain)=true/\Pure P G g (args.map plain) r)\/(bare r=true/\Pure P G g (args.map (frz O.H 8)) r)
theorem WRel.keep (hw:WRel G w0 ro0 K O w){ro':Nat->Nat->Option Value}(hb:Below w.heap.size w w')(h1:∀ b o v,K.ro b o=some v->ro' b o=some v)(h2:∀ b o v,ro' b o=some v->w'.cell? ⟨b,o,none⟩=some v)
 (h3:∀ b o v,ro' b o=some v->b<w.heap.size->K.ro b o=some v):K.le { K with ro:=ro' }/\WRel G w0 ro0 { K with ro:=ro' } O w':=by
 have hle:K.le { K with ro:=ro' }:=⟨h1,fun _ _ e=>e,qrn _,fun t C _ e=>⟨C,e,.inl rfl⟩,fun _ _ _=>rfl,fun _ _ e=>e,fun _ _ e=>e⟩;have hsz:=hw.size_le;refine⟨hle,hw.below.trans (hb.mono hsz),fun g=>(hw.glob g).mono (Yo hle),h2,fun b o v e hlt=>hw.new b o v (h3 b o v e (by omega)) hlt,?_,hw.inj,hw.mlt,?_,hw.chd,hw.chinj,hw.nch,fun i B cs el fr e1 e2=>by
  rw[hb.block B (hw.m_lt e1).1]at e2;exact hw.bsz i B cs el fr e1 e2,fun B x e=>by
  obtain⟨g1,g2,g3,g4⟩:=hw.fx B x e;exact⟨by rw[hb.block B (qrE.1 g1).1];exact g1,g2,g3,g4⟩,hw.rwl⟩
 . intro i b e;obtain⟨B,a1,a2,a3,a4,a5⟩:=hw.blk i b e;refine⟨B,a1,a2,qta a3 hb.size,by rw[hb.block B a3];exact a4.mono hle,fun o=>?_⟩
   cases hr:ro' B o with
   | none=>exact hr
   | some u=>have:=h3 B o u hr a3;rw[a5 o]at this;cases this
 . intro t k e;obtain⟨C,a1,a2,a3,a4,⟨cs,el,a5,a6⟩,a7,a8⟩:=hw.ch t k e;have hlt:=(hw.ch_lt a1).1;refine⟨C,a1,a2,a3,a4,⟨cs,el,by rw[hb.block _ hlt];exact a5,a6⟩,fun o ho=>?_,a8⟩
   cases hr:ro' C.B o with
   | none=>exact hr
   | some u=>have:=h3 C.B o u hr hlt;rw[a7 o ho]at this;cases this
theorem pcall (hw:WRel G w0 ro0 K O w){g:FuncId}{args:List AV}{r:AV}(hp:Zw P G g args O r){vs:Array Value}(hvs:qk K args vs.toList) :
 Calls P g vs w fun e w'=>∃ v' K',e=.returned v'/\K.le K'/\WRel G w0 ro0 K' O w'/\qj K' r v':=by
 rcases hp with ⟨hno,hp⟩|⟨hfl,hp⟩
 . have hvs':qk (K0 K.ro) (args.map plain) vs.toList:=qk.toK0 _ hno (qk.mapRel (fun _ _=>qjU) _ hvs);refine (hp.2 w K.ro vs hw.glob hw.ro hvs').mono ?_;rintro e w' ⟨v',ro',rfl,hb,h1,h2,h3,h4⟩;obtain⟨hle,hw'⟩:=hw.keep hb h1 h2 h3;exact⟨v',{ K with ro:=ro' },rfl,hle,hw',h4.mono (K0_le _)⟩
 . have hvs':qk (K0 (qet w)) (args.map (frz O.H 8)) vs.toList:=qk.mapRel (fun _ _=>qqp hw 8) _ hvs;have hro:∀ b o v,K.ro b o=some v->qet w b o=some v:=hw.ro;refine (hp.2 w (qet w) vs (fun g=>(hw.glob g).mono (qg0 hro)) (fun _ _ _ e=>e) hvs').mono ?_;rintro e w' ⟨v',ro',rfl,hb,h1,h2,h3,h4⟩;obtain⟨hle,hw'⟩:=hw.keep (ro':=K.ro) hb (fun _ _ _ e=>e) (fun b o v e=>h2 b o v (h1 b o v (hro b o v e))) (fun _ _ _ e _=>e);exact⟨v',_,rfl,hle,hw',qn3 hfl h4⟩
theorem Zw.bodied {g:FuncId}{args:List AV}{r:AV}(h:Zw P G g args O r):bodied P g=true:=by
 rcases h with h|h
 . exact h.2.1
 . exact h.2.1
theorem Zw.acall {g:FuncId}{args:List AV}{r:AV}{Q:AV->St->Prop}(h:Zw P G g args O r)(hq:Q r O):qq P G g args O Q :=
 ⟨h.bodied,fun w0 ro0 K w vs hw hvs=>(pcall hw h hvs).mono fun e w' ⟨v',K',h1,h2,h3,h4⟩=>⟨v',r,O,K',h1,h2,h3,h4,hq⟩⟩
end
end
section
def WJ (O:St):AV->Option AV
 | .iter b=>match O.H[b]? with
  | some (.miter (some mb) _ seen stepped)=>match O.H[mb]? with
   | some (.map es clock)=>match seen.getLast? with
    | some st=>if clock=stepped then (es.find? (fun e=>e.2.2==st)).map fun e=>.tup [e.1,e.2.1] else none
    | none=>none
   | _=>none
  | _=>none
 | _=>none
def qm1:AV->AV->Option (List Bool)
 | .sl _ (_::_) _,.sl _ [] .nil=>some [false]
 | .sl _ [] .nil,.sl _ [] .nil=>some [true]
 | .sl _ [] _,.sl _ [] .nil=>some [true,false]
 | .ms ..,.sl _ [] .nil=>some [false]
 | .nilp,.nilp=>some [true]
 | .ptr ..,.nilp=>some [false]
 | .rptr _,.nilp=>some [false]
 | .nilm,.nilm=>some [true]
 | .map _,.nilm=>some [false]
 | .nilf,.nilf=>some [true]
 | .fn ..,.nilf=>some [false]
 | _,_=>none
def TD.isSl:TD->Bool | .sl _=>true | _=>false
def TD.isPtr:TD->Bool | .ptr _=>true | _=>false
def TD.isMap:TD->Bool | .map .. =>true | _=>false
def TD.isFn:TD->Bool | .fn=>true | _=>false
theorem TD.isSl_spec {d:TD}(h:d.isSl=true):∃ e,d=.sl e:=by cases d<;>simp[TD.isSl]at h;exact⟨_,rfl⟩
theorem TD.isPtr_spec {d:TD}(h:d.isPtr=true):∃ e,d=.ptr e:=by cases d<;>simp[TD.isPtr]at h;exact⟨_,rfl⟩
theorem TD.isMap_spec {d:TD}(h:d.isMap=true):∃ k e,d=.map k e:=by cases d<;>simp[TD.isMap]at h;exact⟨_,_,rfl⟩
theorem TD.isFn_spec {d:TD}(h:d.isFn=true):d=.fn:=by cases d<;>simp[TD.isFn]at h;rfl
def qaX (d:TD):AV->Bool
 | .sl .. =>d.isSl
 | .ms .. =>d.isSl
 | .nilp=>d.isPtr
 | .ptr .. =>d.isPtr
 | .rptr _=>d.isPtr
 | .nilm=>d.isMap
 | .map _=>d.isMap
 | .nilf=>d.isFn
 | .fn .. =>d.isFn
 | _=>false
def VX (D:Nat->Option TI)(neg:Bool)(t:Nat)(x y:AV)(O:St):Option (List (AV×St)) :=
 match qm1 x y with
 | some l=>if qaX (zw D t) x then some (l.map fun b=>(.bool (b != neg),O)) else none
 | none=>none
def srcA (O:St)(j:TI)(x:AV):Option (Nat×List AV) :=
 match x with
 | .sl sz rows _=>if sz=j.size\/rows=[] then some (rows.length,rows.flatten) else none
 | .ms b off len sz=>if sz=j.size then (match O.H[b]? with
  | some (.cells c)=>(cut c off (len*sz)).map fun s=>(len,s)
  | _=>none) else none
 | _=>none
def yv (D:Nat->Option TI)(O:St)(t u:Nat)(s x:AV):Option (AV×St) :=
 match D t with
 | some i=>match i.d with
  | .sl e=>match D e with
   | some j=>
    if 0<j.size/\j.zero.length=j.size/\j.bytes<=65536 then
     match zw D u with
     | .int _=>match s,x with
      | .sl _ [] .nil,.int _ n=>if 0<n/\n<=1073741824/\j.zero.all AV.atom=true then some (.ms O.H.length 0 n.toNat j.size,O.push (.cells (List.replicate n.toNat j.zero).flatten)) else none
      | _,_=>none
     | .sl _=>match srcA O j x with
      | some (n,src)=>
       if n=0 then none else
       match s with
       | .sl sz rows tok=>match tok with
        | .nil=>if rows.length+n<=1073741824 then some (.ms O.H.length 0 (rows.length+n) j.size,O.push (.cells (rows.flatten++src))) else none
        | .tight=>if (sz=j.size\/rows=[])/\rows.length+n<=1073741824 then some (.ms O.H.length 0 (rows.length+n) j.size,O.push (.cells (rows.flatten++src))) else none
        | _=>none
       | .ms b off len sz=>match O.H[b]? with
        | some (.cells c)=>if sz=j.size/\off=0/\len+n<=1073741824/\len*sz<=c.length then
         some (.ms O.H.length 0 (len+n) sz,{ O with H:=O.H.set b .dead++[.cells (c.take (len*sz)++src)] })
         else none
        | _=>none
       | _=>none
      | none=>none
     | _=>none
    else none
   | none=>none
  | _=>none
 | none=>none
def z6 (D:Nat->Option TI)(O:St)(t u:Nat)(s x:AV):Option (AV×St) :=
 match yv D O t u s x with
 | some p=>some p
 | none=>match s,x with
  | .ms b off len sz,.sl sz' [] tok=>(match zw D t,zw D u with
   | .sl e,.sl _=>(match D e with | some j=>some (.ms b off len sz,O) | none=>none)
   | _,_=>none)
  | _,_=>none
def qak (D:Nat->Option TI)(O:St)(t:Nat)(x:AV):Option St :=
 match D t with
 | some i=>match i.d,x with
  | .sl e,.sl _ [] _=>some O
  | .sl e,.ms b off len sz=>match D e,O.H[b]? with
   | some j,some (.cells c)=>if sz=j.size/\j.zero.length=j.size/\0<j.size/\j.zero.all AV.atom=true/\off+len*sz<=c.length then some { O with H:=O.H.set b (.cells (ju c off (List.replicate len j.zero).flatten)) } else none
   | _,_=>none
  | _,_=>none
 | none=>none
def qoG (D:Nat->Option TI)(t:Nat)(x:AV):Option AV :=
 match D t with
 | some i=>match i.d,x with
  | .sl _,.sl _ [] .nil=>some (.int .i64 0)
  | _,_=>none
 | none=>none
def qck (D:Nat->Option TI)(G:Nat->AV)(mu:Bool)(env:Env)(O:St):Op->Option (List (AV×St))
 | .next it false=>KY O (ev G env it)
 | .entry it=>(WJ O (ev G env it)).map fun v=>[(v,O)]
 | .insert t m k v=>(zQ D O t (ev G env m) (ev G env k) (ev G env v)).map fun O'=>[(.tup [],O')]
 | .binOp o t x y _=>match o with
  | .eql=>VX D false t (ev G env x) (ev G env y) O
  | .neq=>VX D true t (ev G env x) (ev G env y) O
  | _=>none
 | .call { callee:=.builtin b,args:=args,argTypes:=ts }=>match b,ts.toList,args.toList with
  | .append,[t,u],[s,x]=>match mu with
   | true=>(z6 D O t u (ev G env s) (ev G env x)).map fun p=>[p]
   | false=>none
  | .clear,[t],[x]=>(qak D O t (ev G env x)).map fun O'=>[(.tup [],O')]
  | .cap,[t],[x]=>(qoG D t (ev G env x)).map fun v=>[(v,O)]
  | _,_,_=>none
 | _=>none
section
variable {P:Program}{G:Nat->AV}{w0:World}{ro0:Nat->Nat->Option Value}{K:Kn}{O:St}{w w':World}{N:Nat}{env:Env}{a:Act}
theorem qfm (h:WRel G w0 ro0 K O w){x:Value}{a v:AV}(hx:qj K a x)(hf:WJ O a=some v):∃ v',(Instr.entry x).run P w=.ok v' w/\qj K v v':=by
 unfold WJ at hf;split at hf
 case h_2=>cases hf
 rename_i b;simp only[qj]at hx;obtain⟨B,hm,rfl⟩:=hx;split at hf
 case h_2=>cases hf
 rename_i mb since seen stepped hb;obtain⟨B',h1,hB0,hBl,h4,_⟩:=h.blk b _ hb;rw[hm]at h1;cases h1;obtain⟨mB,h5,h6⟩:=h4;simp only at h6;obtain⟨M,hmM,rfl⟩:=h6;split at hf
 case h_2=>cases hf
 rename_i es clock hes;obtain⟨M',g1,g2,g3,⟨es',g4,g5,g6⟩,g8⟩:=h.blk mb _ hes;rw[hmM]at g1;cases g1;have hF:F2 (qbT K) es es'.toList:=F2.of_get (by simpa using g5.symm) fun i e he=>by
  obtain⟨k,v,n⟩:=e;obtain⟨e',k1,k2,k3,k4⟩:=g6 i k v n he;exact⟨e',by simpa using k1,k2,k3,k4⟩
 split at hf
 case h_2=>cases hf
 rename_i st hst;split at hf
 case isFalse=>cases hf
 rename_i hcl;subst hcl;obtain⟨e,he,rfl⟩:=qq0.1 hf;have find:∀ {l:List (AV×AV×Nat)} {m:List MapEntry},F2 (qbT K) l m->l.find? (fun e=>e.2.2==st)=some e->∃ e',m.find? (fun e=>e.born==st)=some e'/\qbT K e e':=by
  intro l m hF
  induction hF with
  | nil=>intro he;simp at he
  | cons hr t ih=>
   rename_i a b l m;intro he;rw[qtn]at he ⊢;rw[hr.2.2];split at he
   . rename_i hb;cases he;exact⟨b,rfl,hr⟩
   . exact ih he
 obtain⟨e',f1,f2,f3,f4⟩:=find hF he;refine⟨.tuple #[e'.key,e'.val],?_,by simp only[qj];exact⟨_,rfl,by simp only[qk];exact⟨_,_,rfl,f2,_,_,rfl,f3,rfl⟩⟩⟩;have hbk:seen.toArray.back?=some st:=by simpa using hst
 have hfd:es'.find? (fun e=>e.born==st)=some e':=by rw[<- Array.find?_toList];exact f1
 simp[Instr.entry,getObj,Sem.run,h5,g4,hbk,hfd]
theorem jL {t:Nat}{d:TD}(h:zw (Dof P) t=d)(hd:d≠.other):∃ d',P.underlying t=some d'/\Qw P d'=d:=by
 unfold zw at h;split at h
 . rename_i i hD;obtain⟨inf,d',z,hi,hu,_,rfl⟩:=qB hD;exact⟨d',hu,h⟩
 . exact absurd h.symm hd
theorem td_ptr {d:TypeDesc}{e:Nat}(h:Qw P d=.ptr e):d=.pointer e:=by
 cases d<;>simp[Qw]at h
 . exact h▸rfl
 . split at h<;>cases h
theorem td_fn {d:TypeDesc}(h:Qw P d=.fn):∃ a b c,d=.func a b c:=by
 cases d<;>simp only[Qw]at h<;>first | exact⟨_,_,_,rfl⟩ | (cases h;done) | (split at h<;>cases h)
theorem Ka {t e:Nat}(hu:P.underlying t=some (.slice e))(bx:Option Addr)(n c:Nat):(Op.equal t (.slice bx n c) (.slice none 0 0)).run P w=.ok bx.isNone w:=by
 show (Op.equalIn (9999+1) t _ _).run P w=_;rw[Op.equalIn];simp only[Sem.run_bind,run_underlying hu,Result.andThen_ok];cases bx<;>rfl
theorem qk0 {t e:Nat}(hu:P.underlying t=some (.pointer e))(bx:Option Addr):(Op.equal t (.pointer bx) (.pointer none)).run P w=.ok bx.isNone w:=by
 show (Op.equalIn (9999+1) t _ _).run P w=_;rw[Op.equalIn];simp only[Sem.run_bind,run_underlying hu,Result.andThen_ok];cases bx<;>rfl
theorem qoD {t k e:Nat}(hu:P.underlying t=some (.map k e))(bx:Option Nat):(Op.equal t (.map bx) (.map none)).run P w=.ok bx.isNone w:=by
 show (Op.equalIn (9999+1) t _ _).run P w=_;rw[Op.equalIn];simp only[Sem.run_bind,run_underlying hu,Result.andThen_ok];cases bx<;>rfl
theorem eq_fn0 {t:Nat}{a b:Array TypeId}{c:Bool}(hu:P.underlying t=some (.func a b c)):(Op.equal t .nilFunc .nilFunc).run P w=.ok true w:=by
 show (Op.equalIn (9999+1) t _ _).run P w=_;rw[Op.equalIn];simp only[Sem.run_bind,run_underlying hu,Result.andThen_ok];rfl
theorem eq_fn1 {t:Nat}{a b:Array TypeId}{c:Bool}(hu:P.underlying t=some (.func a b c))(f:Fn)(x y:Array Value):(Op.equal t (.func f x y) .nilFunc).run P w=.ok false w:=by
 show (Op.equalIn (9999+1) t _ _).run P w=_;rw[Op.equalIn];simp only[Sem.run_bind,run_underlying hu,Result.andThen_ok];rfl
def refV:Value->Bool
 | .slice .. =>true
 | .pointer _=>true
 | .map _=>true
 | .nilFunc=>true
 | .func .. =>true
 | _=>false
theorem qhT {t:Nat}{x y:AV}{l:List Bool}{x' y':Value}(hx:qj K x x')(hy:qj K y y')(hl:qm1 x y=some l)(hfit:qaX (zw (Dof P) t) x=true) :
 ∃ b∈l,(Op.equal t x' y').run P w=.ok b w/\refV x'=true:=by
 have nils:∀ {sz:Nat},qj K (.sl sz [] .nil) y'->y'=.slice none 0 0:=by
  intro sz h;simp only[qj]at h;rcases h with ⟨⟨a0,h1,ha0⟩,_⟩|⟨B,off,cap,h1,h2,h3,h4⟩
  . rw[h1,ha0.resolve_right (by simp)]
  . simp[Qq]at h4
 have slT:(zw (Dof P) t).isSl=true->∃ e,P.underlying t=some (.slice e):=by
  intro he;obtain⟨e,he⟩:=TD.isSl_spec he;obtain⟨d',hu,hd'⟩:=jL he (by simp);exact⟨e,by rw[hu,Zr hd']⟩
 have ptrT:(zw (Dof P) t).isPtr=true->∃ e,P.underlying t=some (.pointer e):=by
  intro he;obtain⟨e,he⟩:=TD.isPtr_spec he;obtain⟨d',hu,hd'⟩:=jL he (by simp);exact⟨e,by rw[hu,td_ptr hd']⟩
 have mapT:(zw (Dof P) t).isMap=true->∃ k e,P.underlying t=some (.map k e):=by
  intro he;obtain⟨k,e,he⟩:=TD.isMap_spec he;obtain⟨d',hu,hd'⟩:=jL he (by simp);exact⟨k,e,by rw[hu,Kq hd']⟩
 have fnT:(zw (Dof P) t).isFn=true->∃ a b c,P.underlying t=some (.func a b c):=by
  intro he;obtain⟨d',hu,hd'⟩:=jL (TD.isFn_spec he) (by simp);obtain⟨a,b,c,rfl⟩:=td_fn hd';exact⟨a,b,c,hu⟩
 have slOf:∀ {sz rows tok},qj K (.sl sz rows tok) x'->∃ bx n c,x'=.slice bx n c/\(rows≠[]->bx.isNone=false)/\(tok=.nil->bx=none):=by
  intro sz rows tok h;simp only[qj]at h;rcases h with ⟨⟨a0,h1,ha0⟩,h2,_⟩|⟨B,off,cap,h1,h2,h3,h4⟩
  . exact⟨a0,0,0,h1,fun hne=>absurd h2 hne,fun ht=>ha0.resolve_right (by rw[ht];simp)⟩
  . exact⟨_,_,_,h1,fun _=>rfl,fun ht=>by subst ht;simp[Qq]at h4⟩
 unfold qm1 at hl;split at hl
 case h_12=>cases hl
 all_goals cases hl
 all_goals simp only[qaX]at hfit
 . obtain⟨e,hu⟩:=slT hfit;have:=nils hy;subst this;obtain⟨bx,n,c,rfl,h1,h2⟩:=slOf hx;exact⟨false,by simp,by rw[Ka hu,h1 (by simp)],rfl⟩
 . obtain⟨e,hu⟩:=slT hfit;have:=nils hy;subst this;obtain⟨bx,n,c,rfl,h1,h2⟩:=slOf hx;exact⟨true,by simp,by rw[Ka hu,h2 rfl];rfl,rfl⟩
 . obtain⟨e,hu⟩:=slT hfit;have:=nils hy;subst this;obtain⟨bx,n,c,rfl,h1,h2⟩:=slOf hx;exact⟨bx.isNone,by cases bx<;>simp,Ka hu _ _ _,rfl⟩
 . obtain⟨e,hu⟩:=slT hfit;have:=nils hy;subst this;simp only[qj]at hx;obtain⟨B,cap,hm,rfl,_⟩:=hx;exact⟨false,by simp,by rw[Ka hu];rfl,rfl⟩
 . obtain⟨e,hu⟩:=ptrT hfit;simp only[qj]at hx hy;subst hx;subst hy;exact⟨true,by simp,by rw[qk0 hu];rfl,rfl⟩
 . obtain⟨e,hu⟩:=ptrT hfit;simp only[qj]at hx hy;obtain⟨B,hm,rfl⟩:=hx;subst hy;exact⟨false,by simp,by rw[qk0 hu];rfl,rfl⟩
 . obtain⟨e,hu⟩:=ptrT hfit;simp only[qj]at hx hy;obtain⟨B,off,rfl,_⟩:=hx;subst hy;exact⟨false,by simp,by rw[qk0 hu];rfl,rfl⟩
 . obtain⟨k,e,hu⟩:=mapT hfit;simp only[qj]at hx hy;subst hx;subst hy;exact⟨true,by simp,by rw[qoD hu];rfl,rfl⟩
 . obtain⟨k,e,hu⟩:=mapT hfit;simp only[qj]at hx hy;obtain⟨B,hm,rfl⟩:=hx;subst hy;exact⟨false,by simp,by rw[qoD hu];rfl,rfl⟩
 . obtain⟨u1,u2,u3,hu⟩:=fnT hfit;simp only[qj]at hx hy;subst hx;subst hy;exact⟨true,by simp,eq_fn0 hu,rfl⟩
 . obtain⟨u1,u2,u3,hu⟩:=fnT hfit;simp only[qj]at hx hy;obtain⟨va,vb,rfl,_,_⟩:=hx;subst hy;exact⟨false,by simp,eq_fn1 hu _ _ _,rfl⟩
theorem Yx (h:WRel G w0 ro0 K O w){t:Nat}{x y:AV}{l:List (AV×St)}{x' y':Value}(hx:qj K x x')(hy:qj K y y'){neg:Bool}(hf:VX (Dof P) neg t x y O=some l)(ox oy:Operand) :
 ∃ v O',(v,O')∈l/\O'=O/\∃ v',(do eqGuard (if neg then .neq else .eql) t ox oy x' y';binOp (if neg then .neq else .eql) t x' y':Sem Value).run P w=.ok v' w/\qj K v v':=by
 unfold VX at hf;split at hf
 . rename_i bs hbs;split at hf
   . rename_i hfit;simp only[Option.some.injEq]at hf;subst hf;obtain⟨b,hb,hrun,h1⟩:=qhT (w:=w) hx hy hbs hfit;refine⟨.bool (b != neg),O,qq3.2 ⟨b,hb,rfl⟩,rfl,.bool (b != neg),?_,by simp[qj]⟩;cases neg<;>cases x'<;>simp only[refV]at h1<;>first | (cases h1;done) | skip
     all_goals
      simp only[qrq,if_false,if_true];rw[Sem.run_bind];simp only[eqGuard,pure];simp[binOp,hrun]
   . cases hf
 . cases hf
end
end
section
section
variable {P:Program}{G:Nat->AV}{w0:World}{ro0:Nat->Nat->Option Value}{K:Kn}{O:St}{w w':World}{N:Nat}{env:Env}{a:Act}
theorem JY (t tx ty e el:TypeId)(i:TypeInfo)(ht:P.underlying t=some (.slice e))(hi:P.info? e=some i)(b sLen sCap:Nat)(cur:Array Value)(hg:w.heap[b]?=some (.cells cur el (0,0)))
 (x:Value) (n:Nat) (news:List Value) (hs:Src P i.size tx x n news w) (hroom:sLen+n<=sCap) (hfit:sLen*i.size+news.length<=cur.size) :
 (Builtin.append_ #[t,tx] ty #[.slice (some ⟨b,0,none⟩) sLen sCap,x]).run P w=.ok (.slice (some ⟨b,0,none⟩) (sLen+n) sCap)
   (w.setRow b (cur.toList.take (sLen*i.size)++news++cur.toList.drop (sLen*i.size+news.length)).toArray):=by
 have hst:=run_storeCells_at P b (sLen*i.size) el news 0 cur w hg (by simpa using hfit) hs.one;simp only[qsz]at hst;rcases hs.kind with ⟨e',hk⟩|hk<;>simp[Builtin.append_,run_underlying ht,run_underlying hk,sizeOf,typeInfo,hi,hs.len,hroom,hs.cells,Addr.add_lit,hst]
theorem qji (h:WRel G w0 ro0 K O w){j:TI}{x:AV}{x':Value}(hx:qj K x x'){n:Nat}{src:List AV}(hf:srcA O j x=some (n,src))(hn:n≠0){u e':Nat}(hu:P.underlying u=some (.slice e')){size:Nat}(hsz:j.size=size) :
 ∃ news,qk K src news/\src.all AV.atom=true/\Src P size u x' n news w/\src.length=n*size:=by
 unfold srcA at hf;split at hf
 . rename_i sz rows tok;split at hf
   . rename_i hc;simp only[Option.some.injEq,Prod.mk.injEq]at hf;obtain⟨rfl,rfl⟩:=hf;have hne:rows≠[]:=fun e=>hn (by simp[e])
     have hsz':sz=size:=(hc.resolve_right hne).trans hsz;subst hsz';simp only[qj]at hx;rcases hx with ⟨_,h2,_⟩|⟨B,off,cap,rfl,hcap,hrows,_⟩
     . exact absurd h2 hne
     . obtain⟨vs,g1,g2,g3,g4,g5⟩:=QE h hrows;exact⟨vs,g1,g4,Src.ofSlice w hu _ _ _ vs g2 g3 g5,by rw[<- g1.length,g2]⟩
   . cases hf
 . rename_i b off len sz;split at hf
   . rename_i hsz1;have hsz':sz=size:=hsz1.trans hsz;subst hsz';split at hf
     . rename_i c hb;obtain⟨s,hs,he⟩:=qq0.1 hf;simp only[Prod.mk.injEq]at he;obtain⟨rfl,rfl⟩:=he;unfold cut at hs;split at hs
       . rename_i hl;simp only[Option.some.injEq]at hs;subst hs;simp only[qj]at hx;obtain⟨B,cap,hm,rfl,hcap,hpos,hbs⟩:=hx;obtain⟨vs,l1,l2⟩:=qiH.of_blk h hb hm off (len*sz) hl;obtain⟨B',g1,g2,g3,⟨cs,el,g4,g5,g6,g7⟩,g8⟩:=h.blk b _ hb;have hat:((c.drop off).take (len*sz)).all AV.atom=true:=by
          rw[qq7]at g5 ⊢;exact fun x hx=>g5 x (qsC (qs1 hx))
         have hlen:((c.drop off).take (len*sz)).length=len*sz:=(by simp;omega);exact⟨vs,l1,hat,Src.ofSlice w hu _ _ _ vs (by rw[l1.length,hlen]) (fun j v e=>by rw[j9];exact l2 j v e) (l1.oneCells hat),hlen⟩
       . cases hs
     . cases hf
   . cases hf
 . cases hf
theorem WRel.again (h:WRel G w0 ro0 K O w){b B:Nat}{c:List AV}{b':Blk}(hb:O.H[b]?=some (.cells c))(hm:K.m b=some B)(hos:w'.os=w.os)(htape:w'.tape=w.tape)(hout:w'.output=w.output)
 (hsz:w'.heap.size=w.heap.size) (hother:∀ k,k≠B->w'.heap[k]?=w.heap[k]?) (hb':jX K b' w'.heap[B]?) (hbs:∀ cs el fr,w'.heap[B]?=some (.cells cs el fr)->cs.size=K.bs b)
 (hwas:∀ cs el fr,w'.heap[B]?=some (.cells cs el fr)->∃ cs0 el0 fr0,w.heap[B]?=some (.cells cs0 el0 fr0)) :
 K.le (K.addM O.H.length B (K.bs b))/\WRel G w0 ro0 (K.addM O.H.length B (K.bs b)) { O with H:=O.H.set b .dead++[b'] } w':=by
 have hbl:b<O.H.length:=(qqV.1 hb).1;have hle:=Kn.le_addM h B (K.bs b);have h1:=h.setBlk (b':=.dead) hbl hm hos htape hout hsz hother (by simp[jX]) (by rw[hb];simp) hbs hwas;have hlen:(O.H.set b .dead).length=O.H.length:=by simp
 have alone:∀ i,K.m i=some B->(O.H.set b Blk.dead)[i]?=some Blk.dead:=by
  intro i hi;by_cases hib:i=b
  . subst hib;simp[hbl]
  . rw[qqX (Ne.symm hib)];rcases h.inj i b B hi hm with h2|h2|h2
    . exact absurd h2 hib
    . exact h2
    . rw[hb]at h2;cases h2
 refine⟨hle,⟨h1.below,fun g=>(h1.glob g).mono (Yo hle),h1.ro,h1.new,?_,?_,?_,?_,h1.chd,h1.chinj,?_,?_,?_,?_⟩⟩
 . intro i b2 e;simp only[qrO]at e;split at e
   . rename_i hi;obtain⟨B2,g1,g2,g3,g4,g5⟩:=h1.blk i b2 e;exact⟨B2,hle.m _ _ g1,g2,g3,g4.mono hle,g5⟩
   . rename_i hi;have hi':i=O.H.length:=by
      rcases qtL (i-(O.H.set b .dead).length) 1 with h2|h2
      . omega
      . simp[qry (l:=[b']) (by simpa using h2)]at e
     subst hi';simp at e;subst e;obtain⟨B0,g1,g2,g3,g4,g5⟩:=h.blk b _ hb;rw[hm]at g1;cases g1;exact⟨B,by simp[Kn.addM],g2,by omega,hb'.mono hle,g5⟩
 . intro i j B2 e1 e2;simp only[Kn.addM]at e1 e2;have left:∀ {i},(O.H.set b Blk.dead)[i]?=some Blk.dead->(O.H.set b Blk.dead++[b'])[i]?=some Blk.dead:=fun {i} hi=>by
    rw[qrc (qqV.1 hi).1];exact hi
   split at e1<;>split at e2
   . left;omega
   . simp at e1;subst e1;exact .inr (.inr (left (alone j e2)))
   . simp at e2;subst e2;exact .inr (.inl (left (alone i e1)))
   . exact (h1.inj i j B2 e1 e2).imp_right (Or.imp left left)
 . intro i B2 e;simp only[Kn.addM]at e;simp only[qqY,qsk,qq8];split at e
   . omega
   . have:=h.mlt i B2 e;omega
 . intro t k e;obtain⟨C,g1,g2,g3,g4,g5,g6,g7⟩:=h1.ch t k e;refine⟨C,g1,g2,g3,g4,g5,g6,fun i e2=>?_⟩;simp only[Kn.addM]at e2;split at e2
   . simp at e2;exact g7 b (by rw[hm,e2])
   . exact g7 i e2
 . exact h1.nch
 . intro i B2 cs el fr e1 e2;simp only[Kn.addM]at e1 ⊢;split at e1
   . rename_i hi;simp at e1;subst e1;simp[hi];exact h1.bsz b B cs el fr hm e2
   . rename_i hi;simp only[hi,if_false];exact h1.bsz i B2 cs el fr e1 e2
 . intro B2 x e;obtain⟨g1,g2,g3,g4⟩:=h1.fx B2 x e;refine⟨g1,g2,fun i e2=>?_,g4⟩;simp only[Kn.addM]at e2;split at e2
   . simp at e2;exact g3 b (by rw[hm,e2])
   . exact g3 i e2
 . intro n x e;have:=h.rwl n x e;simp only[qqY,qsk,qq8];omega
theorem qaZ (h:WRel G w0 ro0 K O w){content:List AV}{vs:List Value}(hv:qk K content vs)(hat:content.all AV.atom=true){z:Array Value}{len cap sz e:Nat}(hz:z.size=sz)(hsz:0<sz)(hlen:vs.length=len*sz)(hcap:len<=cap)(h0:0<len) :
 ∃ K',K.le K'/\WRel G w0 ro0 K' (O.push (.cells content)) (w.alloc (.cells (vs.toArray++Builtin.zeroCells z (cap-len)) e))/\qj K' (.ms O.H.length 0 len sz) (.slice (some ⟨w.heap.size,0,none⟩) len cap):=by
 have hsize:(vs.toArray++Builtin.zeroCells z (cap-len)).size=cap*sz:=by
  simp only[qtB,qtC,size_zeroCells,hz,hlen,<- qrS];congr 1;omega
 refine⟨_,Kn.le_addM h _ _,h.push (o:=.cells (vs.toArray++Builtin.zeroCells z (cap-len)) e) ⟨_,e,rfl,hat,?_,fun i a ea=>?_⟩,?_⟩
 . rw[hsize,<- hv.length,hlen];exact qrJ _ hcap
 . obtain⟨v,e1,e2⟩:=hv.get i a ea;have hil:i<vs.length:=(qqV.1 e1).1;exact⟨v,by rw[qs4 (by simpa using hil)];simpa using e1,e2⟩
 . simp only[qj];exact⟨w.heap.size,cap,by simp[Kn.addM],rfl,hcap,by omega,by simp only[Kn.addM,if_true,kD,hsize];omega⟩
theorem qbN (h:WRel G w0 ro0 K O w){t u:Nat}{s x v:AV}{s' x':Value}(hs:qj K s s')(hx:qj K x x')(ty:Nat){O':St}(hf:yv (Dof P) O t u s x=some (v,O')) :
 Ran P G w0 ro0 K w (Builtin.append_ #[t,u] ty #[s',x']) v O':=by
 unfold yv at hf;split at hf
 case h_2=>cases hf
 rename_i i hD;obtain⟨inf,d,z,hi,hu,_,rfl⟩:=qB hD;simp only at hf;split at hf
 case h_2=>cases hf
 rename_i e hd;have hd':=Zr hd;subst hd';split at hf
 case h_2=>cases hf
 rename_i j hj;obtain⟨inf2,d2,z2,hi2,hu2,hz2,rfl⟩:=qB hj;simp only at hf;split at hf
 case isFalse=>cases hf
 rename_i hc;obtain⟨hc3,hc4,hc5⟩:=hc;have hzs:z2.cells.size=inf2.size:=by simpa using hc4
 have bound:∀ m:Nat,m<=1073741824->m*inf2.bytes<=140737488355328:=fun m hm=>by
  calc m*inf2.bytes<=1073741824*65536:=qsw hm hc5
   _<=140737488355328:=by omega
 split at hf
 . -- zeros
   rename_i kn hkn;obtain⟨du,hdu,hdu2⟩:=jL hkn (by simp);have:=Ys hdu2;subst this;split at hf
   case h_2=>cases hf
   rename_i sz0 k n;split at hf
   case isFalse=>cases hf
   rename_i hn;obtain⟨n0,n1,n2⟩:=hn;simp only[Option.some.injEq,Prod.mk.injEq]at hf;obtain⟨rfl,rfl⟩:=hf;simp only[qj]at hx;subst hx;have hs0:s'=.slice none 0 0:=by
    simp only[qj]at hs;rcases hs with ⟨⟨a0,hs1,ha0⟩,_⟩|⟨B,off,cap,g1,g2,g3,g4⟩
    . rw[hs1,ha0.resolve_right (by simp)]
    . simp[Qq]at g4
   subst hs0;obtain⟨m,rfl⟩:=qrj (Int.le_of_lt n0);have hm0:0<m:=(by omega);have hm1:m<=1073741824:=(by omega);have hr:=Lib.run_append_nil_zeros (P:=P) w t u ty e inf2 z2 k kn hu hdu hi2 hz2 m hm0 hc3 (by omega) (by have:=bound m hm1;omega);have hge:=grownCap_ge w m 0 e;have hzr:=Z6 (K:=K) (z:=z2) (n:=m) (by omega);have hzl:((Array.range (m*z2.cells.size)).map (z2.cells[· % z2.cells.size]!)).toList.length=m*inf2.size:=(by simp[hzs]);obtain⟨K',k1,k2,k3⟩:=qaZ (e:=e) h.drew hzr (by
    rw[qq7];intro x hx;obtain⟨l,hl1,hl2⟩:=qth.1 hx;rw[(qsU.1 hl1).2]at hl2;rw[qq7]at n2;exact n2 x hl2) hzs hc3 hzl hge hm0
   refine⟨_,_,K',hr,k1,?_,?_⟩
   . simp only[qsM]at k2;exact k2
   . simpa using k3
 . -- a slice
   rename_i eu heu;obtain⟨du,hdu,hdu2⟩:=jL heu (by simp);have:=Zr hdu2;subst this;split at hf
   case h_2=>cases hf
   rename_i n src hsrc;split at hf
   . cases hf
   rename_i hn;obtain⟨news,n1,n2,n3,n4⟩:=qji (P:=P) (u:=u) (size:=inf2.size) h hx hsrc hn hdu rfl;have nl:news.length=n*inf2.size:=n3.newsLen;have fromNil:∀ (total:Nat),total=n->n<=1073741824->s'=.slice none 0 0->Ran P G w0 ro0 K w (Builtin.append_ #[t,u] ty #[s',x']) (.ms O.H.length 0 total inf2.size) (O.push (.cells src)):=by
    intro total ht hb hs0;subst ht;subst hs0;have hr:=run_append_grow_src (P:=P) w t u ty e inf2 z2 hu hi2 hz2 none 0 0 [] (by simpa using run_firstCells_none (P:=P) w.drew inf2.size 0 0 0) x' total news n3 (by omega) (by omega) (growslice_fits (by omega) (by have:=bound total hb;simpa using this));have hge:=grownCap_ge w total 0 e;obtain⟨K',k1,k2,k3⟩:=qaZ (e:=e) h.drew n1 n2 hzs hc3 nl hge (by omega);simp only[qsh,qrh]at hr;exact⟨_,_,K',hr,k1,k2,by simpa using k3⟩
   have grow:∀ (rows:Nat) (content:List AV) (olds:List Value) (base:Addr),qk K content olds->content.all AV.atom=true->olds.length=rows*inf2.size->(∀ j v,olds[j]?=some v->w.cell? (base.add j)=some v)->rows+n<=1073741824->∀ cap,cap<rows+n ->
    ∃ K',K.le K'/\WRel G w0 ro0 K' (O.push (.cells (content++src))) (w.drew.alloc (.cells ((olds++news).toArray++Builtin.zeroCells z2.cells (grownCap w (rows+n) cap e-(rows+n))) e)) /\
     qj K' (.ms O.H.length 0 (rows+n) inf2.size) (.slice (some ⟨w.heap.size,0,none⟩) (rows+n) (grownCap w (rows+n) cap e)) /\
     (Builtin.append_ #[t,u] ty #[.slice (some base) rows cap,x']).run P w=.ok (.slice (some ⟨w.heap.size,0,none⟩) (rows+n) (grownCap w (rows+n) cap e))
       (w.drew.alloc (.cells ((olds++news).toArray++Builtin.zeroCells z2.cells (grownCap w (rows+n) cap e-(rows+n))) e)):=by
    intro rows content olds base o1 o2 o3 o4 hb cap hcap;have hr:=run_append_grow_src (P:=P) w t u ty e inf2 z2 hu hi2 hz2 (some base) rows cap olds (run_firstCells_some w.drew inf2.size rows base rows cap olds o3 (by simpa using o4)) x' n news n3 hcap (by omega) (growslice_fits (by omega) (bound _ hb));have hge:=grownCap_ge w (rows+n) cap e;obtain⟨K',k1,k2,k3⟩:=qaZ (e:=e) h.drew (o1.append n1) (by rw[qsB,o2,n2];rfl) hzs hc3 (by rw[qqY,o3,nl,qrS]) hge (by omega);exact⟨K',k1,k2,by simpa using k3,hr⟩
   split at hf
   . rename_i sz rows tok;split at hf
     . -- nil
       split at hf
       case isFalse=>cases hf
       rename_i hb;simp only[Option.some.injEq,Prod.mk.injEq]at hf;obtain⟨rfl,rfl⟩:=hf;simp only[qj]at hs;rcases hs with ⟨⟨a0,h1,ha0⟩,rfl,_⟩|⟨B,off,cap,g1,g2,g3,g4⟩
       . rw[ha0.resolve_right (by simp)]at h1;simpa using fromNil (0+n) (by omega) (by simpa using hb) h1
       . simp[Qq]at g4
     . -- no spare room
       split at hf
       case isFalse=>cases hf
       rename_i hb;obtain⟨hszr,hb⟩:=hb;simp only[Option.some.injEq,Prod.mk.injEq]at hf;obtain⟨rfl,rfl⟩:=hf;simp only[qj]at hs;rcases hs with ⟨⟨a0,h1,ha0⟩,rfl,_⟩|⟨B,off,cap,rfl,hcap,hrows,htok⟩
       . rw[ha0.resolve_right (by simp)]at h1;simpa using fromNil (0+n) (by omega) (by simpa using hb) h1
       . simp only[Qq]at htok;subst htok;obtain⟨olds,o1,o2,o3,o4,o5⟩:=QE h hrows;have o2':olds.length=rows.length*inf2.size:=by
          rcases hszr with rfl|hr0
          . exact o2
          . subst hr0;simpa using o2
         obtain⟨K',k1,k2,k3,k4⟩:=grow rows.length rows.flatten olds ⟨B,off,none⟩ o1 o4 o2' o3 hb rows.length (by omega);exact⟨_,_,K',k4,k1,k2,k3⟩
     . cases hf
   . rename_i b off len sz;split at hf
     case h_2=>cases hf
     rename_i c hb;split at hf
     case isFalse=>cases hf
     rename_i hcd;obtain⟨rfl,rfl,hb1,hb2⟩:=hcd;simp only[Option.some.injEq,Prod.mk.injEq]at hf;obtain⟨rfl,rfl⟩:=hf;simp only[qj]at hs;obtain⟨B,cap,hm,rfl,hcap,hpos,hbs⟩:=hs;obtain⟨B',g1,g2,g3,⟨cs,el,g4,g5,g6,g7⟩,g8⟩:=h.blk b _ hb;rw[hm]at g1;cases g1;have hcs:cs.size=K.bs b:=h.bsz b B cs el _ hm g4;obtain⟨olds,l1,l2⟩:=qiH.of_blk h hb hm 0 (len*inf2.size) (by omega);simp only[qsv,qsh]at l1 l2;have hat:(c.take (len*inf2.size)).all AV.atom=true:=by
      rw[qq7]at g5 ⊢;exact fun x hx=>g5 x (qs1 hx)
     have ol:olds.length=len*inf2.size:=(by rw[l1.length];simp;omega);by_cases hroom:len+n<=cap
     . have hmul:(len+n)*inf2.size<=cap*inf2.size:=qrJ _ hroom;rw[qrS]at hmul;have hr:=JY (P:=P) (w:=w) t u ty e el inf2 hu hi2 B len cap cs g4 x' n news n3 hroom (by rw[nl,hcs];omega);have hbk:jX K (.cells (c.take (len*inf2.size)++src)) (w.setRow B (cs.toList.take (len*inf2.size)++news++cs.toList.drop (len*inf2.size+news.length)).toArray).heap[B]? := by
        refine⟨_,el,setRow_heap w B cs _ el _ g4,by rw[qsB,hat,n2];rfl,?_,fun i a ea=>?_⟩
        . simp[n4,nl];omega
        . rw[qrO]at ea;simp only[qsI];split at ea
          . rename_i hil;simp only[qrT]at hil;rw[qrL]at ea;split at ea
            . obtain⟨v,e1,e2⟩:=g7 i a ea;refine⟨v,?_,e2⟩;rw[qri,qrc (by simp;omega),qrL,if_pos (by omega)];simpa using e1
            . cases ea
          . rename_i hil;simp only[qrT]at hil ea;obtain⟨v,e1,e2⟩:=n1.get _ _ ea;refine⟨v,?_,e2⟩;have hvl:=(qqV.1 e1).1;rw[qri,qro (by simp;omega),qrc (by simp;omega)];simp only[qrT,qr0];rw[show min (len*inf2.size) cs.size=min (len*inf2.size) c.length by omega];exact e1
       obtain⟨q1,q2⟩:=h.again (b':=.cells (c.take (len*inf2.size)++src)) hb hm (w':=w.setRow B (cs.toList.take (len*inf2.size)++news++cs.toList.drop (len*inf2.size+news.length)).toArray) rfl rfl rfl (by simp[World.setRow]) (fun k hk=>setRow_other w B k _ hk) hbk
        (fun cs2 el2 fr2 e2=>by
          rw[setRow_heap w B cs _ el _ g4]at e2;cases e2;rw[<- hcs];simp[nl];omega) (fun _ _ _ _=>⟨cs,el,_,g4⟩)
       refine⟨_,_,_,hr,q1,q2,?_⟩;simp only[qj];exact⟨B,cap,by simp[Kn.addM],rfl,hroom,hpos,by simp only[Kn.addM,if_true];omega⟩
     . obtain⟨K',k1,k2,k3,k4⟩:=grow len (c.take (len*inf2.size)) olds ⟨B,0,none⟩ l1 hat ol (fun j v e=>by rw[j9];simpa using l2 j v e) hb1 cap (by omega);have hbl:b<O.H.length:=(qqV.1 hb).1;have hd:=h.drew.setBlk (w':=w.drew) (b':=.dead) hbl hm rfl rfl rfl rfl (fun _ _=>rfl) (by simp[jX]) (by rw[hb];simp) (fun cs2 el2 fr2 e2=>h.drew.bsz b B cs2 el2 fr2 hm e2) (fun cs2 el2 fr2 e2=>⟨cs2,el2,fr2,e2⟩);have hge:=grownCap_ge w (len+n) cap e;obtain⟨K2,j1,j2,j3⟩:=qaZ (e:=e) hd (l1.append n1) (by rw[qsB,hat,n2];rfl) hzs hc3 (by rw[qqY,ol,nl,qrS]) hge (by omega);refine⟨_,_,K2,k4,j1,?_,?_⟩
       . simpa[St.push] using j2
       . simpa using j3
   . cases hf
 . cases hf
theorem qbM (h:WRel G w0 ro0 K O w){t u:Nat}{s x v:AV}{s' x':Value}(hs:qj K s s')(hx:qj K x x')(ty:Nat){O':St}(hf:z6 (Dof P) O t u s x=some (v,O')) :
 Ran P G w0 ro0 K w (Builtin.append_ #[t,u] ty #[s',x']) v O':=by
 unfold z6 at hf;split at hf
 . rename_i p hp;simp only[Option.some.injEq]at hf;subst hf;exact qbN h hs hx ty hp
 . split at hf
   case h_2=>cases hf
   rename_i b off len sz sz' tok;split at hf
   case h_2=>cases hf
   rename_i e eu he heu;split at hf
   case h_2=>cases hf
   rename_i j hj;simp only[Option.some.injEq,Prod.mk.injEq]at hf;obtain⟨rfl,rfl⟩:=hf;obtain⟨d1,hu,hd1⟩:=jL he (by simp);have:=Zr hd1;subst this;obtain⟨d2,hu2,hd2⟩:=jL heu (by simp);have:=Zr hd2;subst this;obtain⟨inf2,d3,z2,hi2,hu3,hz2,rfl⟩:=qB hj;refine Ran.same h (v':=s') ?_ hs;have hx0:∃ bx cx,x'=.slice bx 0 cx:=by
    simp only[qj]at hx;rcases hx with ⟨⟨a0,rfl,_⟩,_⟩|⟨B2,off2,cap2,rfl,_⟩
    . exact⟨_,_,rfl⟩
    . exact⟨_,_,rfl⟩
   obtain⟨bx,cx,rfl⟩:=hx0;have hf0:(Builtin.firstCells inf2.size 0 (.slice bx 0 cx)).run P w=.ok #[] w:=by
    cases bx<;>simp[Builtin.firstCells,loadCells,loadCellsFrom]
   simp only[qj]at hs;obtain⟨B,cap,hm,rfl,hcap,hpos,hbs⟩:=hs;simp[Builtin.append_,run_underlying hu,run_underlying hu2,sizeOf,typeInfo,hi2,Builtin.lenOf,hcap,hf0,storeCells]
theorem qfs (h:WRel G w0 ro0 K O w){t:Nat}{x:AV}{x':Value}(hx:qj K x x')(ty:Nat){O':St}(hf:qak (Dof P) O t x=some O') :
 Ran P G w0 ro0 K w (Builtin.clear_ #[t] ty #[x']) (.tup []) O':=by
 unfold qak at hf;split at hf
 case h_2=>cases hf
 rename_i i hD;obtain⟨inf,d,z,hi,hu,_,rfl⟩:=qB hD;simp only at hf;split at hf
 . rename_i e sz tok hd;have:=Zr hd;subst this;simp only[Option.some.injEq]at hf;subst hf;refine Ran.same h (v':=.tuple #[]) ?_ (by simp only[qj];exact⟨_,rfl,by simp[qk]⟩);simp only[qj]at hx;rcases hx with ⟨⟨a0,rfl,_⟩,_⟩|⟨B,off,cap,rfl,_⟩
   . cases a0<;>simp[Builtin.clear_,run_underlying hu]
   . simp[Builtin.clear_,run_underlying hu]
 . rename_i e b off len sz hd;have:=Zr hd;subst this;split at hf
   case h_2=>cases hf
   rename_i j c hj hb;obtain⟨inf2,d2,z2,hi2,hu2,hz2,rfl⟩:=qB hj;simp only at hf;split at hf
   case isFalse=>cases hf
   rename_i hc;obtain⟨rfl,c2,c3,c4,c5⟩:=hc;simp only[Option.some.injEq]at hf;subst hf;have hzs:z2.cells.size=inf2.size:=(by simpa using c2);simp only[qj]at hx;obtain⟨B,cap,hm,rfl,hcap,hpos,hbs⟩:=hx;obtain⟨B',g1,g2,g3,⟨cs,el,g4,g5,g6,g7⟩,g8⟩:=h.blk b _ hb;rw[hm]at g1;cases g1;have hbl:b<O.H.length:=(qqV.1 hb).1;have hcs:cs.size=K.bs b:=h.bsz b B cs el _ hm g4;have hzr:=Z6 (K:=K) (z:=z2) (n:=len) (by omega);have hzl:(Builtin.zeroCells z2.cells len).toList.length=len*inf2.size:=(by simp[size_zeroCells,hzs]);have hat:((List.replicate len (z2.cells.toList.map ofAtom)).flatten).all AV.atom=true:=by
    rw[qq7];intro x hx;obtain⟨l,hl1,hl2⟩:=qth.1 hx;rw[(qsU.1 hl1).2]at hl2;rw[qq7]at c4;exact c4 x hl2
   have hst:=run_storeCells_at P B off el (Builtin.zeroCells z2.cells len).toList 0 cs w g4 (by simp only[qsz];rw[hzl];omega) (qk.oneCells (K:=K) hzr hat);simp only[qsz]at hst;have hflen:((List.replicate len (z2.cells.toList.map ofAtom)).flatten).length=len*inf2.size:=by
    have:=hzr.length;rw[<- this];simp[hzs]
   refine⟨.tuple #[],w.setRow B (cs.toList.take off++(Builtin.zeroCells z2.cells len).toList++cs.toList.drop (off+(Builtin.zeroCells z2.cells len).toList.length)).toArray,K,?_,Kn.le_refl K,
    h.setBlk (B:=B) (b':=.cells (ju c off (List.replicate len (z2.cells.toList.map ofAtom)).flatten)) (w':=w.setRow B (cs.toList.take off++(Builtin.zeroCells z2.cells len).toList++cs.toList.drop (off+(Builtin.zeroCells z2.cells len).toList.length)).toArray) hbl hm rfl rfl rfl (by simp[World.setRow]) (fun k hk=>setRow_other w B k _ hk) ?_ (by rw[hb];simp)
     (fun cs2 el2 fr2 e2=>by
       rw[setRow_heap w B cs _ el _ g4]at e2;cases e2;rw[<- hcs];simp[size_zeroCells,hzs];omega) (fun _ _ _ _=>⟨cs,el,_,g4⟩),by simp only[qj];exact⟨_,rfl,by simp[qk]⟩⟩
   . by_cases hl0:len=0
     . subst hl0;have h0:(Builtin.zeroCells z2.cells 0).toList=[]:=(by simp[Builtin.zeroCells]);rw[h0]at hst ⊢;simp only[storeCells,qrl,qrt,qsz,qsl]at hst ⊢;have:(⟨cs.toList⟩:Array Value)=cs:=rfl;have hsame:w.setRow B cs.toList.toArray=w:=by
        have:=hst;simp[pure]at this;exact this.symm
       rw[hsame];simp[Builtin.clear_,run_underlying hu]
     . have hl1:len≠0:=hl0;obtain⟨m,rfl⟩:∃ m,len=m+1:=⟨len-1,by omega⟩;simp[Builtin.clear_,run_underlying hu,zeroValue,typeInfo,hi2,hz2,hst]
   . refine⟨_,el,setRow_heap w B cs _ el _ g4,Jr _ _ _ g5 hat,by simp[QK,size_zeroCells,hzs];omega,fun i a ea=>?_⟩;rw[vK _ _ _ _ (by omega)]at ea;simp only[qsI];split at ea
     . rename_i hin;obtain⟨v,e1,e2⟩:=hzr.get _ _ ea;refine⟨v,?_,e2⟩;rw[qri,qro (by simp;omega),qrc (by rw[hzl];simp;omega)];simp only[qrT,qr0];rw[show min off cs.size=off by omega];exact e1
     . rename_i hin;obtain⟨v,e1,e2⟩:=g7 i a ea;refine⟨v,?_,e2⟩;by_cases hlo:i<off
       . rw[qri,qrc (by simp;omega),qrL,if_pos hlo];simpa using e1
       . rw[qri,qro (by simp;omega),qro (by rw[hzl];simp;omega),qrR];simp only[qrT,qr0];rw[hflen]at hin;have hz':(Builtin.zeroCells z2.cells len).size=len*inf2.size:=(by simp[size_zeroCells,hzs]);rw[hz',show off+len*inf2.size+(i-min off cs.size-len*inf2.size)=i by omega];simpa using e1
 . cases hf
theorem qll (h:WRel G w0 ro0 K O w){t:Nat}{x v:AV}{x':Value}(hx:qj K x x')(ty:Nat)(hf:qoG (Dof P) t x=some v):∃ v',(Builtin.cap_ #[t] ty #[x']).run P w=.ok v' w/\qj K v v':=by
 unfold qoG at hf;split at hf
 case h_2=>cases hf
 rename_i i hD;obtain⟨inf,d,z,hi,hu,_,rfl⟩:=qB hD;simp only at hf;split at hf
 . rename_i e sz hd;have:=Zr hd;subst this;cases hf;simp only[qj]at hx;rcases hx with ⟨⟨a0,rfl,ha0⟩,_⟩|⟨B,off,cap,g1,g2,g3,g4⟩
   . obtain rfl:=ha0.resolve_right (by simp);exact⟨goInt 0,by simp[Builtin.cap_,run_underlying hu],by simp[qj,goInt]⟩
   . simp[Qq]at g4
 . cases hf
theorem VA (hw:WRel G w0 ro0 K O w)(he:ERel K N env a){mu:Bool}(o:Oper){l:List (AV×St)}(h:qck (Dof P) G mu env O o.op=some l) :
 ∃ v O',(v,O')∈l/\Did P G w0 ro0 K w (execOp a.eval o) v O':=by
 have ex:=ZD hw he;obtain⟨dst,op,type,pos,after,guard⟩:=o;simp only at h;cases op<;>simp only[qck]at h<;>try (cases h;done)
 case insert t m k v=>
  obtain⟨O',hu,rfl⟩:=qq0.1 h;exact⟨_,_,qrM.2 rfl,Did.of_unit (QP hw (ex m) (ex k) (ex v) hu)⟩
 case binOp o t x y u=>
  cases o<;>simp only at h<;>try (cases h;done)
  . obtain⟨v,O',h1,rfl,h2⟩:=Yx (P:=P) hw (ex x) (ex y) h x y;exact⟨v,O',h1,Did.of_same hw h2⟩
  . obtain⟨v,O',h1,rfl,h2⟩:=Yx (P:=P) hw (ex x) (ex y) h x y;exact⟨v,O',h1,Did.of_same hw h2⟩
 case next it b=>
  cases b<;>simp only at h
  . obtain⟨v,O',h1,h2⟩:=qeR (P:=P) (t:=type) hw (ex it) h;exact⟨v,O',h1,Did.of_ran h2⟩
  . cases h
 case entry it=>
  obtain⟨v,hu,rfl⟩:=qq0.1 h;exact⟨_,_,qrM.2 rfl,Did.of_same hw (qfm hw (ex it) hu)⟩
 case call c=>
  obtain⟨callee,args,ts⟩:=c;cases callee<;>simp only at h<;>try (cases h;done)
  rename_i b;split at h
  . rename_i t u s x hts hargs;cases mu
    . cases h
    . simp only at h;obtain⟨p,hp,rfl⟩:=qq0.1 h;obtain⟨v,O'⟩:=p;obtain⟨v',w',K',r1,r2,r3,r4⟩:=qbM hw (ex s) (ex x) type hp;have eargs:args.map a.eval = #[a.eval s,a.eval x]:=(by apply Array.ext';simp[hargs]);have ets:ts = #[t,u]:=(by apply Array.ext';simpa using hts);exact⟨v,O',qrM.2 rfl,v',w',K',.inl (by simp[execOp,resolve,invoke,builtin,eargs,ets,r1]),r2,r3,r4⟩
  . rename_i t x hts hargs;obtain⟨O',hp,rfl⟩:=qq0.1 h;obtain⟨v',w',K',r1,r2,r3,r4⟩:=qfs hw (ex x) type hp;have eargs:args.map a.eval = #[a.eval x]:=(by apply Array.ext';simp[hargs]);have ets:ts = #[t]:=(by apply Array.ext';simpa using hts);exact⟨_,O',qrM.2 rfl,v',w',K',.inl (by simp[execOp,resolve,invoke,builtin,eargs,ets,r1]),r2,r3,r4⟩
  . rename_i t x hts hargs;obtain⟨v,hp,rfl⟩:=qq0.1 h;obtain⟨v',r1,r2⟩:=qll hw (ex x) type hp;have eargs:args.map a.eval = #[a.eval x]:=(by apply Array.ext';simp[hargs]);have ets:ts = #[t]:=(by apply Array.ext';simpa using hts);exact⟨v,O,qrM.2 rfl,v',w,K,.inl (by simp[execOp,resolve,invoke,builtin,eargs,ets,r1]),Kn.le_refl K,hw,r2⟩
  . cases h
end
end
end Go.Abs
end
