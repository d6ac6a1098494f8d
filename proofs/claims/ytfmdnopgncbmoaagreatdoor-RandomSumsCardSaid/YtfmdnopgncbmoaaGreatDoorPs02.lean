import Derived.Test.YtfmdnopgncbmoaaGreatDoorPs01
import Derived.ChangeKeysEq
import Derived.Laws.AppendOwn
set_option linter.all false
set_option linter.defProp false
namespace Go.Abs
open Go Go.RowKit
section
variable {P:Program}{G:Nat->AV}{w0:World}{ro0:Nat->Nat->Option Value}{K:Kn}{U:St}{w w':World}
def wM{t}(h:yM (Dof P) t=true):∃inf,P.info? t=some inf/\(P.underlying t=some .bool\/P.underlying t=some .string\/∃k,P.underlying t=some (.int k)):=by
 unfold yM at h;split at h
 . rename_i i hD;obtain⟨inf,d,z,hi,hu,_,rfl⟩:=qv hD;refine⟨inf,hi,?_⟩;simp only at h;split at h
   . rename_i k hd;exact .inr (.inr ⟨k,by rw[hu,Jc hd]⟩)
   . rename_i hd;exact .inl (by rw[hu,WV hd])
   . rename_i hd;exact .inr (.inl (by rw[hu,vu hd]))
   cases h
 cases h
def Jl (d xs ys) : ∀ (fs : List Field) (k : Nat) (as bs : List AV) (p : Bool), (∀ f ∈ fs, yM (Dof P) f.type = true ∧ f.name ≠ "_") →
 fs.map (·.offset)=List.range' k fs.length->as.length=fs.length->qh K as (xs.toList.drop k)->qh K bs (ys.toList.drop k)->zY as bs=some p ->
 (∀(j:Nat) (f:Field) (a:AV),fs[j]?=some f->as[j]?=some a->(match P.underlying f.type,a with|some .bool,.bool _=>True|some .string,.str _=>True|some (.int _),.int .. =>True|_,_=>False)) ->
 (Op.eqFields (d+1) xs ys fs).run P w=.ok p w
 | [],k,as,bs,p,_,_,hl,h1,h2,he,_=>by
  have:as=[]:=qyX (by simpa using hl);subst this
  cases bs with
  |nil=>simp[zY]at he;subst he;simp[Op.eqFields]
  |cons=>simp[zY]at he
 | f::fs,k,as,bs,p,hf,ho,hl,h1,h2,he,ht=>by
  cases as with
  |nil=>simp at hl
  | cons a as=>
   cases bs with
   |nil=>simp[zY]at he
   | cons b bs=>
    simp only[qyR,qyY,qAI,qA3]at ho;obtain⟨ho1,ho2⟩:=ho;simp only[qh]at h1 h2;obtain⟨va,ra,e1,g1,g2⟩:=h1;obtain⟨vb,rb,e2,g3,g4⟩:=h2;simp only[zY]at he;split at he
    . rename_i p1 q1 hp1 hq1;simp only[qyU]at he;subst he;obtain⟨hpl,hnm⟩:=hf f (by simp);have htk:=ht 0 f a (by simp) (by simp);have hxa:xs[f.offset]?=some va:=by
       have:(xs.toList.drop k)[0]?=some va:=by rw[e1];rfl
       rw[ho1];simpa using this
      have hyb:ys[f.offset]?=some vb:=by
       have:(ys.toList.drop k)[0]?=some vb:=by rw[e2];rfl
       rw[ho1];simpa using this
      have hdx:ra=xs.toList.drop (k+1):=by
       have:=congrArg List.tail e1;simpa using this.symm
      have hdy:rb=ys.toList.drop (k+1):=by
       have:=congrArg List.tail e2;simpa using this.symm
      have ih:=Jl d xs ys fs (k+1) as bs q1 (fun x hx=>hf x (by simp[hx])) ho2 (by simpa using hl) (hdx▸g2) (hdy▸g4) hq1
       (fun j f' a' h1 h2=>ht (j+1) f' a' (by simpa using h1) (by simpa using h2))
      obtain⟨inf,hi,hu⟩:=wM hpl;have hagg:(isAgg f.type).run P w=.ok false w:=by
       rcases hu with hu|hu|⟨k,hu⟩<;>simp[isAgg,run_underlying hu]
      have heq:(Op.equalIn (d+1) f.type va vb).run P w=.ok p1 w:=by
       rcases hu with hu|hu|⟨k',hu⟩
       . rw[hu]at htk;cases a<;>simp at htk;cases b<;>simp[kc]at hp1;subst hp1;simp only[qg]at g1 g3;subst g1;subst g3;simp[Op.equalIn,run_underlying hu]
       . rw[hu]at htk;cases a<;>simp at htk;cases b<;>simp[kc]at hp1;subst hp1;simp only[qg]at g1 g3;subst g1;subst g3;rw[run_equalIn_string w d f.type _ _ hu,yn,yn]
       rw[hu]at htk;cases a<;>simp at htk;cases b<;>simp only[kc]at hp1<;>try(cases hp1;done)
       split at hp1
       . rename_i hk;simp at hp1;subst hp1;subst hk;simp only[qg]at g1 g3;subst g1;subst g3;exact run_equalIn_int w d f.type _ k' _ _ hu
       cases hp1
      simp only[Op.eqFields,if_pos hnm];simp[part,hagg,hxa,hyb,heq];cases p1
      . simp
      simpa using ih
    cases he
def Vu:TD->AV->Prop
 |.bool,.bool _=>True
 |.str,.str _=>True
 |.int _,.int .. =>True
 |_,_=>False
def kW:∀(tds) (as:List AV),zR tds as=true->as.length=tds.length /\
 ∀(j:Nat) (td:TD) (a:AV),tds[j]?=some td->as[j]?=some a->Vu td a
 |[],[],_=>⟨rfl,by simp⟩
 |[],a::r,h=>by simp[zR]at h
 |td::r,[],h=>by cases td<;>simp[zR]at h
 | td::r,a::s,h=>by
  have:zR r s=true/\Vu td a:=by
   cases td<;>cases a<;>simp[zR]at h<;>exact⟨h,trivial⟩
  obtain⟨h1,h2⟩:=this;obtain⟨i1,i2⟩:=kW r s h1;refine⟨by simp[i1],fun j td' a' e1 e2=>?_⟩
  cases j with
  |zero=>simp at e1 e2;rw[<- e1,<- e2];exact h2
  |succ j=>exact i2 j td' a' (by simpa using e1) (by simpa using e2)
def ZM{t tds}(h:Y1 (Dof P) t=some tds):
 ∃ fields : Array Field, P.underlying t = some (.struct fields) ∧ P.stoodInHeld t = false ∧ tds = fields.toList.map (fun f => qP (Dof P) f.type) ∧ (∀ f ∈ fields.toList, yM (Dof P) f.type = true ∧ f.name ≠ "_") ∧
  fields.toList.map (·.offset)=List.range fields.size:=by
 unfold Y1 at h;split at h
 . rename_i i hD;obtain⟨inf,d,z,hi,hu,_,rfl⟩:=qv hD;simp only at h;split at h
   . rename_i fs hd;obtain⟨fields,rfl,rfl,_,hnm⟩:=qkI hd;split at h
     . rename_i hc;simp only[qyU]at h;simp only[qyJ,qz4,beq_iff_eq,qz0,qzk,qzS,qCc,qyP]at hc;obtain⟨⟨h1,h2⟩,h3⟩:=hc;refine⟨fields,hu,h1,by rw[<- h];simp,fun f hf=>⟨h2 f hf,hnm f hf⟩,?_⟩;rw[<- h3];rfl
     cases h
   cases h
 cases h
def wC{t}(h:yM (Dof P) t=true)(d):P.eqGuardType (d+1) t=false:=by
 obtain⟨inf,hi,hu⟩:=wM h;rcases hu with hu|hu|⟨k,hu⟩<;>simp[Program.eqGuardType,hu]
def Y9(d){e}(he:yM (Dof P) e=true)(xs ys):∀(n k) (as bs) (p),as.length=n ->
 qh K as (xs.toList.drop k)->qh K bs (ys.toList.drop k)->zY as bs=some p ->
 (∀a∈as,(match P.underlying e,a with|some .bool,.bool _=>True|some .string,.str _=>True|some (.int _),.int .. =>True|_,_=>False)) ->
 (Op.eqItems (d+1) e 1 xs ys (List.range' k n)).run P w=.ok p w
 | 0,k,as,bs,p,hl,h1,h2,hq,_=>by
  have:as=[]:=qyX hl;subst this
  cases bs with
  |nil=>simp[zY]at hq;subst hq;simp[Op.eqItems]
  |cons=>simp[zY]at hq
 | n+1,k,as,bs,p,hl,h1,h2,hq,ht=>by
  cases as with
  |nil=>simp at hl
  | cons a as=>
   cases bs with
   |nil=>simp[zY]at hq
   | cons b bs=>
    simp only[qh]at h1 h2;obtain⟨va,ra,e1,g1,g2⟩:=h1;obtain⟨vb,rb,e2,g3,g4⟩:=h2;simp only[zY]at hq;split at hq
    . rename_i p1 q1 hp1 hq1;simp only[qyU]at hq;subst hq;have htk:=ht a (by simp);have hxa:xs[k]?=some va:=by
       have:(xs.toList.drop k)[0]?=some va:=by rw[e1];rfl
       simpa using this
      have hyb:ys[k]?=some vb:=by
       have:(ys.toList.drop k)[0]?=some vb:=by rw[e2];rfl
       simpa using this
      have hdx:ra=xs.toList.drop (k+1):=by
       have:=congrArg List.tail e1;simpa using this.symm
      have hdy:rb=ys.toList.drop (k+1):=by
       have:=congrArg List.tail e2;simpa using this.symm
      have ih:=Y9 d he xs ys n (k+1) as bs q1 (by simpa using hl) (hdx▸g2) (hdy▸g4) hq1 (fun a' h'=>ht a' (by simp[h']));obtain⟨inf,hi,hu⟩:=wM he;have hagg:(isAgg e).run P w=.ok false w:=by
       rcases hu with hu|hu|⟨k,hu⟩<;>simp[isAgg,run_underlying hu]
      have heq:(Op.equalIn (d+1) e va vb).run P w=.ok p1 w:=by
       rcases hu with hu|hu|⟨k',hu⟩
       . rw[hu]at htk;cases a<;>simp at htk;cases b<;>simp[kc]at hp1;subst hp1;simp only[qg]at g1 g3;subst g1;subst g3;simp[Op.equalIn,run_underlying hu]
       . rw[hu]at htk;cases a<;>simp at htk;cases b<;>simp[kc]at hp1;subst hp1;simp only[qg]at g1 g3;subst g1;subst g3;rw[run_equalIn_string w d e _ _ hu,yn,yn]
       rw[hu]at htk;cases a<;>simp at htk;cases b<;>simp only[kc]at hp1<;>try(cases hp1;done)
       split at hp1
       . rename_i hk;simp at hp1;subst hp1;subst hk;simp only[qg]at g1 g3;subst g1;subst g3;exact run_equalIn_int w d e _ k' _ _ hu
       cases hp1
      rw[qAI];simp only[Op.eqItems];simp[part,hagg,hxa,hyb,heq];cases p1
      . simp
      simpa using ih
    cases hq
def qjQ{t tds}(h:quZ (Dof P) t=some tds):
 ∃n e inf td,P.underlying t=some (.array n e)/\P.info? e=some inf/\P.cellsOf e=1/\yM (Dof P) e=true/\tds=List.replicate n (vV P td)/\P.underlying e=some td:=by
 unfold quZ at h;split at h
 . rename_i i hD;obtain⟨inf,d,z,hi,hu,_,rfl⟩:=qv hD;simp only at h;split at h
   . rename_i n e hd;split at h
     . rename_i j hj;obtain⟨inf2,d2,z2,hi2,hu2,_,rfl⟩:=qv hj;split at h
       . rename_i hc;simp only[qyU]at h;simp only[qyJ,beq_iff_eq]at hc;exact⟨n,e,inf2,d2,by rw[hu,qau hd],hi2,by simp[Program.cellsOf,hi2,hc.2],hc.1,h.symm,hu2⟩
       cases h
     cases h
   cases h
 cases h
def qi1{t tds a b p}(ht:quZ (Dof P) t=some tds)(hfit:zR tds a=true)(h:zY a b=some p){as bs}(ha:qh K a as.toList)(hb:qh K b bs.toList):
 P.eqGuardType P.depth t=false/\(Op.equalIn 10000 t (.agg as) (.agg bs)).run P w=.ok p w:=by
 obtain⟨n,e,inf,td,hu,hi,hc,hpl,rfl,hue⟩:=qjQ ht;obtain⟨hl,hk⟩:=kW _ _ hfit;constructor
 . have:∃d,P.depth=d+2:=⟨2*(P.types.size+Made.depth),rfl⟩;obtain⟨d,hd⟩:=this;rw[hd,Program.eqGuardType];simp only[hu];exact wC hpl d
 rw[run_equalIn_array w 9999 as bs hu hi,hc,qAB];refine Y9 9998 hpl as bs n 0 a b p (by simpa using hl) (by simpa using ha) (by simpa using hb) h ?_;intro x hx;obtain⟨j,hj⟩:=List.mem_iff_getElem?.1 hx;have hjl:j<n:=by
  obtain⟨h1,_⟩:=qyF.1 hj;simpa[hl] using h1
 have hf:=hk j (vV P td) x (by simp[hjl]) hj;rw[hue];cases hd:vV P td<;>simp only[hd]at hf<;>cases x<;>simp only[Vu]at hf
 . rw[WV hd];trivial
 . rw[Jc hd];trivial
 rw[vu hd];trivial
def Ka{t a b p}(h:VC (Dof P) t a b=some p){as bs}(ha:qh K a as.toList)(hb:qh K b bs.toList):
 P.eqGuardType P.depth t=false/\(Op.equalIn 10000 t (.agg as) (.agg bs)).run P w=.ok p w:=by
 unfold VC at h;split at h
 . rename_i tds htds;split at h
   . rename_i hfit;obtain⟨fields,hu,hst,rfl,hpl,hoff⟩:=ZM htds;obtain⟨hl,hk⟩:=kW _ _ hfit;have hfo:P.fieldsOf t=fields:=(by simp[Program.fieldsOf,hu]);constructor
     . have:∃d,P.depth=d+2:=⟨2*(P.types.size+Made.depth),rfl⟩;obtain⟨d,hd⟩:=this;rw[hd,Program.eqGuardType];simp only[hu];rw[<- Array.any_toList,qAg];intro f hf;have:=wC (hpl f hf).1 d;simp[this]
     rw[run_equalIn_struct w 9999 t as bs (by rwa[hfo]) hst,hfo];refine Jl 9998 as bs fields.toList 0 a b p hpl (by rw[hoff,qAB];simp) (by simpa using hl) (by simpa using ha) (by simpa using hb) h ?_;intro j f x e1 e2;have:=hk j (qP (Dof P) f.type) x (by simp[e1]) e2;have hp:=(hpl f (qyG e1)).1;unfold yM at hp;unfold qP at this
     cases hD:Dof P f.type with
     |none=>simp[hD]at hp
     | some i=>
      obtain⟨inf,d,z,hi,hu',_,rfl⟩:=qv hD;simp only[hD]at this;rw[hu'];cases hd:vV P d<;>simp only[hd]at this<;>cases x<;>simp only[Vu]at this
      . rw[WV hd];trivial
      . rw[Jc hd];trivial
      rw[vu hd];trivial
   cases h
 split at h
 . rename_i tds htds;split at h
   . rename_i hfit;exact qi1 htds hfit h ha hb
   cases h
 cases h
def qjI{op t x y v x' y'}(hx:qg K x x')(hy:qg K y y')(hf:qmS (Dof P) op t x y=some v)(ox oy):
 ∃v',(do eqGuard op t ox oy x' y';binOp op t x' y':Sem Value).run P w=.ok v' w/\qg K v v':=by
 have guard:∀{a b:Value},(∀s,a≠.agg s)->a≠.nilIface->(eqGuard op t ox oy a b).run P w=.ok () w:=by
  intro a b h1 h2;cases op<;>simp[eqGuard]<;>cases a<;>first|exact absurd rfl (h1 _)|exact absurd rfl h2|rfl|simp
 unfold qmS at hf;split at hf
 . rename_i k a k' b;simp only[qg]at hx hy;subst hx;subst hy;split at hf
   . split at hf
     . cases hf
     . rename_i hb;cases hf;exact⟨.int k (k.wrap (a*2^(min b.toNat k.bits))),by rw[Sem.run_bind,guard (by simp) (by simp),Result.andThen_ok];simp[binOp,Op.shift,hb],by simp[qg]⟩
   . split at hf
     . cases hf
     . rename_i hb;cases hf;exact⟨.int k (a.fdiv (2^(min b.toNat k.bits))),by rw[Sem.run_bind,guard (by simp) (by simp),Result.andThen_ok];simp[binOp,Op.shift,hb],by simp[qg]⟩
   rename_i h1 h2;split at hf
   . rename_i hk;subst hk;obtain⟨v',e1,e2⟩:=qcX (P:=P) (K:=K) (w:=w) hf t ⟨fun e=>h1 e,fun e=>h2 e⟩;exact⟨v',by rw[Sem.run_bind,guard (by simp) (by simp),Result.andThen_ok];exact e1,e2⟩
   cases hf
 . rename_i a b;simp only[qg]at hx hy;subst hx;subst hy;have key:∀u:Value,(Op.stringOp op ⟨a.toArray⟩ ⟨b.toArray⟩).run P w=.ok u w->(do eqGuard op t ox oy (.string ⟨a.toArray⟩) (.string ⟨b.toArray⟩);binOp op t (.string ⟨a.toArray⟩) (.string ⟨b.toArray⟩):Sem Value).run P w=.ok u w:=by
    intro u hu;rw[Sem.run_bind,guard (by simp) (by simp),Result.andThen_ok];cases op<;>simpa[binOp] using hu
   cases op<;>simp only[qoZ]at hf
   case add=>
    split at hf
    . rename_i hl;cases hf;refine⟨.string ⟨(a++b).toArray⟩,key _ ?_,by simp[qg]⟩;have:¬(((⟨a.toArray⟩:ByteArray).size+(⟨b.toArray⟩:ByteArray).size:Nat):Int) > IntKind.i64.max:=by
       rw[QP,QP];simp[IntKind.max,IntKind.signed,IntKind.bits];omega
      simp only[Op.stringOp];rw[if_neg this,qfx];rfl
    cases hf
   all_goals first
    |(cases hf;done)
    | (cases hf
       exact⟨.bool _,key _ (by simp only[Op.stringOp,yn,pure,Sem.run];rfl),by simp[qg]⟩)
 . rename_i a b;simp only[qg]at hx hy;subst hx;subst hy;have hty:qP (Dof P) t=.bool->P.underlying t=some .bool:=by
    intro e;unfold qP at e;split at e
    . rename_i i hD;obtain⟨inf,d,z,hi,hu,_,rfl⟩:=qv hD;rw[hu,WV e]
    cases e
   split at hf
   . rename_i htd;cases hf;exact⟨.bool (a==b),by rw[Sem.run_bind,guard (by simp) (by simp),Result.andThen_ok];simp[binOp,Op.equal,Op.maxDepth,run_equalIn_bool' w 9999 t a b (hty htd)],by simp[qg]⟩
   . rename_i htd;cases hf;exact⟨.bool (!(a==b)),by rw[Sem.run_bind,guard (by simp) (by simp),Result.andThen_ok];simp[binOp,Op.equal,Op.maxDepth,run_equalIn_bool' w 9999 t a b (hty htd)],by simp[qg]⟩
   cases hf
 . rename_i a b;simp only[qg]at hx hy;obtain⟨as,rfl,ha⟩:=hx;obtain⟨bs,rfl,hb⟩:=hy;split at hf
   . obtain⟨p,hp,rfl⟩:=qyM.1 hf;obtain⟨e1,e2⟩:=Ka (w:=w) hp ha hb;exact⟨.bool p,by simp only[Sem.run_bind,run_eqGuard_agg w _ t ox oy as bs e1,Result.andThen_ok,run_eql_struct,e2],by simp[qg]⟩
   . obtain⟨p,hp,rfl⟩:=qyM.1 hf;obtain⟨e1,e2⟩:=Ka (w:=w) hp ha hb;exact⟨.bool (!p),by simp only[Sem.run_bind,run_eqGuard_agg w _ t ox oy as bs e1,Result.andThen_ok,run_neq_struct,e2],by simp[qg]⟩
   cases hf
 cases hf
def YW(f:Value->ByteArray->Sem (ForInStep ByteArray))(hf:∀n s,f (.int .u8 n) s=pure (ForInStep.yield (s.push (UInt8.ofNat n.toNat)))):
 ∀(rows) (vs) (l:List UInt8) (s),qh K rows.flatten vs->bytesOf rows=some l ->
 (forIn vs s f:Sem ByteArray).run P w=.ok ⟨(s.data.toList++l).toArray⟩ w
 | [],vs,l,s,h,hl=>by
  simp[bytesOf]at hl;subst hl;simp only[List.flatten_nil,qh]at h;subst h;simp
 | r::rows,vs,l,s,h,hl=>by
  unfold bytesOf at hl;split at hl
  . rename_i hx;simp at hx
  . rename_i n r' hx;simp only[qA3]at hx;obtain⟨rfl,rfl⟩:=hx;obtain⟨l',hl',rfl⟩:=qyM.1 hl;simp only[qzn,qAq,qh,qg]at h;obtain⟨v,vr,rfl,rfl,h2⟩:=h;have ih:=YW f hf rows vr l' (s.push (UInt8.ofNat n.toNat)) h2 hl';simp only[List.forIn_cons,hf];simp only[pure,Sem.run_bind,Sem.run,Result.andThen_ok];rw[ih];simp
  cases hl
def qgl(h:WRel G w0 ro0 K U w){s d x v x'}(hx:qg K x x')(hf:yS (Dof P) s d x=some v):
 ∃v',(convert s d x').run P w=.ok v' w/\qg K v v':=by
 unfold yS at hf;split at hf
 . rename_i i j k n hi hj;obtain⟨inf,d1,z,hi1,hu1,_,rfl⟩:=qv hi;obtain⟨inf2,d2,z2,hi2,hu2,_,rfl⟩:=qv hj;simp only at hf;split at hf
   . rename_i k1 k2 e1 e2;cases hf;simp only[qg]at hx;subst hx;refine⟨.int k2 (k2.wrap n),?_,by simp[qg]⟩;have e1':=Jc e1;have e2':=Jc e2;subst e1' e2';simp[convert,run_underlying hu1,run_underlying hu2,Conv.intToInt]
   cases hf
 . rename_i i j l hi hj;obtain⟨inf,d1,z,hi1,hu1,_,rfl⟩:=qv hi;obtain⟨inf2,d2,z2,hi2,hu2,_,rfl⟩:=qv hj;simp only at hf;split at hf
   . rename_i e1 e2;cases hf;simp only[qg]at hx;subst hx;refine⟨.string ⟨l.toArray⟩,?_,by simp[qg]⟩;have e1':=vu e1;have e2':=vu e2;subst e1' e2';simp[convert,run_underlying hu1,run_underlying hu2]
   cases hf
 . rename_i i j rows tok hi hj;obtain⟨inf,d1,z,hi1,hu1,_,rfl⟩:=qv hi;obtain⟨inf2,d2,z2,hi2,hu2,_,rfl⟩:=qv hj;simp only at hf;split at hf
   . rename_i e e1 e2;have e1':=Qh e1;have e2':=vu e2;subst e1' e2';split at hf
     . rename_i m hm;obtain⟨inf3,d3,z3,hi3,hu3,_,rfl⟩:=qv hm;simp only at hf;split at hf
       . rename_i e3;have e3':=Jc e3;subst e3';obtain⟨l,hl,rfl⟩:=qyM.1 hf;simp only[qg]at hx;rcases hx with⟨⟨a0,rfl,_⟩,rfl,_⟩|⟨B,off,cap,rfl,hcap,hrows,_⟩
         . simp[bytesOf]at hl;subst hl;refine⟨.string .empty,?_,by simp[qg];rfl⟩;cases a0<;>simp[convert,run_underlying hu1,run_underlying hu2,run_underlying hu3,Conv.bytesToString,loadCells,loadCellsFrom]
         obtain⟨f1,f2,f3⟩:=qI.flat B 1 rows off hrows;obtain⟨vs,g1,g2⟩:=qDd h.ro B _ off f1;have hcl:=run_loadCells_list (P:=P) w ⟨B,off,none⟩ vs (fun j v e=>by rw[jg];exact g2 j v e);rw[show vs.length=rows.length by rw[g1.length,f2];omega]at hcl;refine⟨.string ⟨l.toArray⟩,?_,by simp[qg]⟩;simp only[convert,run_underlying hu1,run_underlying hu2,run_underlying hu3,Conv.bytesToString,Sem.run_bind,Result.andThen_ok,hcl];rw[<- Array.forIn_toList];simp only[];rw[YW (P:=P) (w:=w) _ (fun n s=>rfl) rows _ l ByteArray.empty (by simpa using g1) hl];simp[ByteArray.empty,ByteArray.emptyWithCapacity];rfl
       cases hf
     cases hf
   cases hf
 cases hf
end
section
variable {P:Program}{G:Nat->AV}{w0:World}{ro0:Nat->Nat->Option Value}{K:Kn}{U:St}{w w':World}
def yx{k:IntKind}{n:Int}{y:Nat}(h0:0<=n)(h1:n<=y)(c:BoundsCode):(Instr.sliceBound (.int k n) y c).run P w=.ok n.toNat w:=by
 simp[Instr.sliceBound,asIntOf,h0,h1]
def jG{isS}{len cap:Nat}{lo hi mx lo' hi' mx'}(hlo:∀a,lo=some a->∃v,lo'=some v/\qg K a v)(hlo0:lo=none->lo'=none)
 (hhi:∀a,hi=some a->∃v,hi'=some v/\qg K a v) (hhi0:hi=none->hi'=none) (hmx:∀a,mx=some a->∃v,mx'=some v/\qg K a v) (hmx0:mx=none->mx'=none)
 {l h} (el:zU lo 0=some l) (eh:zU hi len=some h)
 (hle:0<=l/\l<=h/\h<=len) (hlc:len<=cap) (em:∀a,mx=some a->w7 a=some h/\hi.isSome):
 (Instr.sliceBounds isS len cap lo' hi' mx').run P w=.ok (l.toNat,h.toNat,if mx.isSome then h.toNat else cap) w:=by
 obtain⟨h1,h2,h3⟩:=hle;have hlb:∀c,(match lo' with|some v=>Instr.sliceBound v h.toNat c|none=>(pure 0:Sem Nat)).run P w=.ok l.toNat w:=by
  intro c
  cases lo with
  | none=>
   rw[hlo0 rfl];simp[zU]at el;subst el;simp
  | some a=>
   obtain⟨v,rfl,hv⟩:=hlo a rfl;obtain⟨k,rfl⟩:=jZ el hv;exact yx h1 (by omega) c
 cases mx with
 | none=>
  rw[hmx0 rfl]
  cases hi with
  | none=>
   rw[hhi0 rfl];simp only[zU,qyU]at eh;subst eh;have:=hlb .sliceB
   cases hl':lo' with
   |none=>simp[hl']at this;simp[Instr.sliceBounds];omega
   |some v=>simp[hl']at this;simp[Instr.sliceBounds,this]
  | some a=>
   obtain⟨v,rfl,hv⟩:=hhi a rfl;obtain⟨k,rfl⟩:=jZ eh hv;have hb:=fun c=>yx (P:=P) (w:=w) (k:=k) (n:=h) (y:=cap) (by omega) (by omega) c
   have:=hlb .sliceB
   cases hl':lo' with
   |none=>simp[hl']at this;simp[Instr.sliceBounds,hb];omega
   |some v=>simp[hl']at this;simp[Instr.sliceBounds,hb,this]
 | some a=>
  obtain⟨v,rfl,hv⟩:=hmx a rfl;obtain⟨e1,e2⟩:=em a rfl;obtain⟨k,rfl⟩:=jZ e1 hv
  cases hi with
  |none=>simp at e2
  | some b=>
   obtain⟨u,rfl,hu⟩:=hhi b rfl;obtain⟨k',rfl⟩:=jZ eh hu;have hb:=fun c=>yx (P:=P) (w:=w) (k:=k) (n:=h) (y:=cap) (by omega) (by omega) c
   have hb':=fun c=>yx (P:=P) (w:=w) (k:=k') (n:=h) (y:=h.toNat) (by omega) (by omega) c
   have:=hlb .slice3C
   cases hl':lo' with
   |none=>simp[hl']at this;simp[Instr.sliceBounds,hb,hb'];omega
   |some v=>simp[hl']at this;simp[Instr.sliceBounds,hb,hb',this]
def qI.sub{B sz rows off}(h:qI K B off sz rows)(l n):qI K B (off+l*sz) sz ((rows.take n).drop l):=by
 refine qDf B sz _ _ fun i r e=>?_
 rw[qzG,qzD]at e;split at e
 . obtain⟨h1,h2,h3⟩:=qI.get B sz rows off h _ _ e;exact⟨h1,h2,by rw[qzr]at h3;rwa[qAR]⟩
 cases e
def qcL{N env a}(hw:WRel G w0 ro0 K U w)(he:ERel K N env a)(o:Option Operand):
 (∀x,o.map (ev G env)=some x->∃v,o.map a.eval=some v/\qg K x v)/\(o.map (ev G env)=none->o.map a.eval=none):=by
 cases o with
 |none=>simp
 |some x=>exact⟨fun y e=>by simp at e;subst e;exact⟨_,rfl,Zf hw he x⟩,by simp⟩
def qhu{t:Nat}(hu:P.underlying t=some .string){s:List UInt8}{lo hi mx:Option AV}{lo' hi' mx':Option Value}(hlo:∀a,lo=some a->∃v,lo'=some v/\qg K a v)(hlo0:lo=none->lo'=none)
 (hhi:∀a,hi=some a->∃v,hi'=some v/\qg K a v) (hhi0:hi=none->hi'=none) (hmx0:mx=none->mx'=none)
 {v:AV} (hf:zo (.str s) lo hi mx=some v):∃v',(Instr.sliceAt t (.string ⟨s.toArray⟩) lo' hi' mx').run P w=.ok v' w/\qg K v v':=by
 unfold zo at hf;simp only at hf;split at hf
 . rename_i l h el eh;split at hf
   . rename_i hc;cases hf;rw[hmx0 rfl];have hb:=jG (P:=P) (w:=w) (K:=K) (isS:=false) (len:=s.length) (cap:=s.length) hlo hlo0 hhi hhi0 (mx:=none) (mx':=none) (by simp) (by simp) el eh hc (qyQ _) (by simp);refine⟨.string ⟨((s.take h.toNat).drop l.toNat).toArray⟩,?_,by simp[qg]⟩;simp only[qBy,qy4,if_false]at hb;simp only[Instr.sliceAt,Instr.slice,Sem.run_bind,run_underlying hu,Result.andThen_ok,QP];simp only[qBy,qy4,if_false,Sem.run_bind,pure,Sem.run,Result.andThen_ok,hb];rw[qcy]
   cases hf
 cases hf
def qkQ{t e:Nat}(hu:P.underlying t=some (.slice e)){inf:TypeInfo}(hi2:P.info? e=some inf){sz:Nat}{rows:List (List AV)}{tok:Tok}(hsz:sz=inf.size\/rows=[])
 {x':Value} (hx:qg K (.sl sz rows tok) x')
 {lo hi mx:Option AV} {lo' hi' mx':Option Value} (hlo:∀a,lo=some a->∃v,lo'=some v/\qg K a v) (hlo0:lo=none->lo'=none)
 (hhi:∀a,hi=some a->∃v,hi'=some v/\qg K a v) (hhi0:hi=none->hi'=none) (hmx:∀a,mx=some a->∃v,mx'=some v/\qg K a v) (hmx0:mx=none->mx'=none)
 {v:AV} (hf:zo (.sl sz rows tok) lo hi mx=some v):∃v',(Instr.sliceAt t x' lo' hi' mx').run P w=.ok v' w/\qg K v v':=by
 unfold zo at hf;simp only at hf;split at hf
 . rename_i l h el eh;split at hf
   . rename_i hc;obtain⟨c1,c2,c3,c4⟩:=hc;cases hf;have hmm:∀a,mx=some a->w7 a=some h/\hi.isSome:=by
      intro a ha;subst ha;simpa[kI] using c4
     simp only[qg]at hx;rcases hx with⟨⟨a0,rfl,ha0⟩,rfl,htok⟩|⟨B,off,cap,rfl,hcap,hrows,htok⟩
     . have hb:=jG (P:=P) (w:=w) (K:=K) (isS:=true) (len:=0) (cap:=0) hlo hlo0 hhi hhi0 hmx hmx0 el (by simpa using eh) ⟨c1,c2,by simpa using c3⟩ (qyQ _) hmm;have hl0:l.toNat=0:=(by simp at c3;omega);have hh0:h.toNat=0:=(by simp at c3;omega);rw[hl0,hh0]at hb;refine⟨.slice a0 0 0,?_,?_⟩
       . simp only[Instr.sliceAt,Instr.slice,Sem.run_bind,run_underlying hu,Result.andThen_ok,hb];cases a0<;>simp[sizeOf,typeInfo,hi2]
       simp only[qg];refine .inl ⟨⟨a0,rfl,?_⟩,by simp,?_⟩
       . rcases ha0 with rfl|rfl
         . exact .inl rfl
         . refine .inr ?_;rw[hl0,hh0];cases mx<;>simp[z0,Tok.known]
       rw[hl0,hh0];cases mx<;>cases tok<;>simp[z0,Tok.known,Tok.plain]<;>exact htok.elim
     have hb:=jG (P:=P) (w:=w) (K:=K) (isS:=true) (len:=rows.length) (cap:=cap) hlo hlo0 hhi hhi0 hmx hmx0 el eh ⟨c1,c2,c3⟩ hcap hmm;have hM:h.toNat<=(if mx.isSome then h.toNat else cap):=(by split<;>omega);have hMc:(if mx.isSome then h.toNat else cap)<=cap:=(by split<;>omega);generalize hMe:(if mx.isSome then h.toNat else cap)=M at hb hM hMc;have hrl:((rows.take h.toNat).drop l.toNat).length=h.toNat-l.toNat:=(by simp;omega);refine⟨.slice (some ⟨B,if M=l.toNat then off else off+l.toNat*inf.size,none⟩) (h.toNat-l.toNat) (M-l.toNat),?_,?_⟩
     . simp only[Instr.sliceAt,Instr.slice,Sem.run_bind,run_underlying hu,Result.andThen_ok,hb];simp[sizeOf,typeInfo,hi2,jg];split<;>rfl
     simp only[qg];refine .inr ⟨B,_,M-l.toNat,by rw[hrl],by rw[hrl];omega,?_,?_⟩
     . by_cases he:M=l.toNat
       . have:(rows.take h.toNat).drop l.toNat=[]:=qyX (by rw[hrl];omega);rw[this];simp[qI]
       . rw[if_neg he];rcases hsz with hsz|hsz
         . rw[<- hsz];exact qI.sub hrows _ _
         subst hsz;simp[qI]
     rw[hrl]
     cases hms:mx.isSome with
     | true=>
      rw[hms]at hMe;simp only[if_true]at hMe;simp only[if_true,z0];by_cases hcn:True/\(0<rows.length\/tok.known=true)
      . rw[if_pos hcn];simp only[ky];omega
      rw[if_neg hcn];trivial
     | false=>
      rw[hms]at hMe;simp only[qy4,if_false]at hMe;simp only[qy4,if_false,z0]
      cases tok with
      |none=>trivial
      |nil=>trivial
      | tight=>
       by_cases hn:h.toNat=rows.length
       . simp only[if_pos hn,ky]at htok⊢;omega
       simp only[if_neg hn,ky]
      | chain ct ck=>
       by_cases hn:l.toNat=0/\h.toNat=rows.length
       . simp only[if_pos hn];obtain⟨h01,h02⟩:=hn;rw[h01,h02];simp only[qAl,qz8,qCd,ite_self,<- hMe];exact htok
       simp only[if_neg hn,ky]
   cases hf
 cases hf
def qkR{t e:Nat}(hu:P.underlying t=some (.slice e)){inf:TypeInfo}(hi2:P.info? e=some inf){b off len:Nat}
 {x':Value} (hx:qg K (.ms b off len inf.size) x')
 {lo hi mx:Option AV} {lo' hi' mx':Option Value} (hlo:∀a,lo=some a->∃v,lo'=some v/\qg K a v) (hlo0:lo=none->lo'=none)
 (hhi:∀a,hi=some a->∃v,hi'=some v/\qg K a v) (hhi0:hi=none->hi'=none) (hmx0:mx=none->mx'=none)
 {v:AV} (hf:zo (.ms b off len inf.size) lo hi mx=some v):∃v',(Instr.sliceAt t x' lo' hi' mx').run P w=.ok v' w/\qg K v v':=by
 unfold zo at hf;simp only at hf;split at hf
 . rename_i l h el eh;split at hf
   . rename_i hc;obtain⟨c1,c2,c3,c4⟩:=hc;cases hf;rw[hmx0 rfl];simp only[qg]at hx;obtain⟨B,cap,hm,rfl,hcap,hpos,hbs⟩:=hx;have hb:=jG (P:=P) (w:=w) (K:=K) (isS:=true) (len:=len) (cap:=cap) hlo hlo0 hhi hhi0 (mx:=none) (mx':=none) (by simp) (by simp) el eh ⟨c1,c2,c3⟩ hcap (by simp);simp only[qBy,qy4,if_false]at hb;refine⟨.slice (some ⟨B,off+l.toNat*inf.size,none⟩) (h.toNat-l.toNat) (cap-l.toNat),?_,?_⟩
     . simp only[Instr.sliceAt,Instr.slice,Sem.run_bind,run_underlying hu,Result.andThen_ok,hb];simp[sizeOf,typeInfo,hi2,jg,show ¬cap=l.toNat by omega]
     simp only[qg];refine⟨B,cap-l.toNat,hm,rfl,by omega,by omega,?_⟩;have:cap*inf.size=l.toNat*inf.size+(cap-l.toNat)*inf.size:=by rw[<- qzr];congr 1;omega
     omega
   rename_i hc1;split at hf
   . rename_i hc;obtain⟨c1,c2⟩:=hc;cases hf;rw[hmx0 rfl];simp only[qg]at hx;obtain⟨B,cap,hm,rfl,hcap,hpos,hbs⟩:=hx;have hb:=jG (P:=P) (w:=w) (K:=K) (isS:=true) (len:=len) (cap:=cap) hlo hlo0 hhi hhi0 (mx:=none) (mx':=none) (by simp) (by simp) el eh ⟨by omega,by omega,by omega⟩ hcap (by simp);simp only[qBy,qy4,if_false]at hb;refine⟨.slice (some (if cap=l.toNat then⟨B,off,none⟩ else⟨B,off+l.toNat*inf.size,none⟩)) (h.toNat-l.toNat) (cap-l.toNat),?_,?_⟩
     . simp only[Instr.sliceAt,Instr.slice,Sem.run_bind,run_underlying hu,Result.andThen_ok,hb];by_cases hcl:cap=l.toNat<;>simp[sizeOf,typeInfo,hi2,jg,hcl]
     have e0:h.toNat-l.toNat=0:=(by omega);simp only[qg];right;by_cases hcl:cap=l.toNat
     . exact⟨B,off,cap-l.toNat,by rw[if_pos hcl,e0];rfl,by simp,by simp[qI],by simp[ky]⟩
     exact⟨B,off+l.toNat*inf.size,cap-l.toNat,by rw[if_neg hcl,e0];rfl,by simp,by simp[qI],by simp[ky]⟩
   cases hf
 cases hf
def qii(h:WRel G w0 ro0 K U w){t:Nat}{x v:AV}{x':Value}(hx:qg K x x')(ty:Nat)(hf:JO (Dof P) U t x=some v):
 ∃v',(Builtin.len_ #[t] ty #[x']).run P w=.ok v' w/\qg K v v':=by
 unfold JO at hf;split at hf
 . rename_i i hD;obtain⟨inf,d,z,hi,hu,_,rfl⟩:=qv hD;simp only at hf;split at hf
   . rename_i s hd;have:=vu hd;subst this;cases hf;simp only[qg]at hx;subst hx;exact⟨.int .i64 s.length,by simp[Builtin.len_,run_underlying hu,goInt,QP],by simp[qg]⟩
   . rename_i e sz rows tok hd;have:=Qh hd;subst this;cases hf;simp only[qg]at hx;rcases hx with⟨⟨a0,rfl,_⟩,rfl,_⟩|⟨B,off,cap,rfl,_⟩
     . exact⟨.int .i64 0,by simp[Builtin.len_,run_underlying hu,goInt],by simp[qg]⟩
     exact⟨.int .i64 rows.length,by simp[Builtin.len_,run_underlying hu,goInt],by simp[qg]⟩
   . rename_i e b off len sz hd;have:=Qh hd;subst this;cases hf;simp only[qg]at hx;obtain⟨B,cap,hm,rfl,_⟩:=hx;exact⟨.int .i64 len,by simp[Builtin.len_,run_underlying hu,goInt],by simp[qg]⟩
   . rename_i n e hd;have:=qau hd;subst this;cases hf;exact⟨.int .i64 n,by simp[Builtin.len_,run_underlying hu,goInt],by simp[qg]⟩
   . rename_i k e hd;have:=qat hd;subst this;cases hf;simp only[qg]at hx;subst hx;exact⟨.int .i64 0,by simp[Builtin.len_,run_underlying hu,goInt],by simp[qg]⟩
   . rename_i k e b hd;have:=qat hd;subst this;split at hf
     . rename_i es clock hb;cases hf;simp only[qg]at hx;obtain⟨B,hm,rfl⟩:=hx;obtain⟨B',h1,_,_,⟨es',h4,h5,_⟩,_⟩:=h.blk b _ hb;rw[hm]at h1;cases h1;exact⟨.int .i64 es.length,by simp[Builtin.len_,run_underlying hu,goInt,getObj,Sem.run,h4,h5],by simp[qg]⟩
     cases hf
   cases hf
 cases hf
def qh9{x y v:AV}{x' y':Value}(hx:qg K x x')(hy:qg K y y')(ts:Array Nat)(ty:Nat)(hf:vd x y=some v):
 ∃v',(Builtin.min_ ts ty #[x',y']).run P w=.ok v' w/\qg K v v':=by
 unfold vd at hf;split at hf
 . rename_i k a k' b;cases hf;simp only[qg]at hx hy;subst hx;subst hy;exact⟨.int k (if b<a then b else a),by simp[Builtin.min_,Builtin.min2],by simp[qg]⟩
 cases hf
def qfX{x y z v:AV}{x' y' z':Value}(hx:qg K x x')(hy:qg K y y')(hz:qg K z z')(ts:Array Nat)(ty:Nat)(hf:qia x y z=some v):
 ∃v',(Builtin.min_ ts ty #[x',y',z']).run P w=.ok v' w/\qg K v v':=by
 unfold qia at hf;split at hf
 . rename_i k a k' b k'' c;cases hf;simp only[qg]at hx hy hz;subst hx;subst hy;subst hz;exact⟨.int k (if c<(if b<a then b else a) then c else if b<a then b else a),by simp[Builtin.min_,Builtin.min2],by simp[qg]⟩
 cases hf
def qic{x y v:AV}{x' y':Value}(hx:qg K x x')(hy:qg K y y')(ts:Array Nat)(ty:Nat)(hf:qlH x y=some v):
 ∃v',(Builtin.max_ ts ty #[x',y']).run P w=.ok v' w/\qg K v v':=by
 unfold qlH at hf;split at hf
 . rename_i k a k' b;cases hf;simp only[qg]at hx hy;subst hx;subst hy;exact⟨.int k (if b > a then b else a),by simp[Builtin.max_,Builtin.max2],by simp[qg]⟩
 cases hf
end
section
variable {P:Program}{G:Nat->AV}{w0:World}{ro0:Nat->Nat->Option Value}{K:Kn}{U:St}{w w':World}
def Ju(t ty e el)(i:TypeInfo)(ht:P.underlying t=some (.slice e))(hi:P.info? e=some i)
 (g sLen sCap cur) (hg:w.heap[g]?=some (.cells cur el (0,0)))
 (a:Addr) (m c news) (hl:news.length=m*i.size) (hnews:∀(j) (u),news[j]?=some u->w.cell? (a.add j)=some u) (h1:∀u∈news,u.oneCell'=true)
 (hroom:sLen+m<=sCap) (hfit:sLen*i.size+news.length<=cur.size):
 (Builtin.append_ #[t,t] ty #[.slice (some ⟨g,0,none⟩) sLen sCap,.slice (some a) m c]).run P w =
   .ok (.slice (some ⟨g,0,none⟩) (sLen+m) sCap) (w.setRow g (cur.toList.take (sLen*i.size)++news++cur.toList.drop (sLen*i.size+news.length)).toArray):=by
 have hf:=run_firstCells_some (P:=P) w i.size m a m c news hl hnews;have hst:=run_storeCells_at P g (sLen*i.size) el news 0 cur w hg (by simpa using hfit) h1;simp only[qz8]at hst;simp[Builtin.append_,run_underlying ht,sizeOf,typeInfo,hi,Builtin.lenOf,hroom,hf,Addr.add_lit,hst]
def wq(h:WRel G w0 ro0 K U w){B off sz rows}(hr:qI K B off sz rows):
 ∃ vs:List Value,qh K rows.flatten vs/\vs.length=rows.length*sz/\(∀(j) (v),vs[j]?=some v->w.cell? ((⟨B,off,none⟩:Addr).add j)=some v) /\
  rows.flatten.all AV.atom=true/\∀v∈vs,v.oneCell'=true:=by
 obtain⟨f1,f2,f3⟩:=qI.flat B sz rows off hr;obtain⟨vs,g1,g2⟩:=qDd h.ro B _ off f1;exact⟨vs,g1,by rw[g1.length,f2],fun j v e=>by rw[jg];exact g2 j v e,f3,g1.oneCells f3⟩
def W5{B off sz rows}(hr:qI K B off sz rows):∀r∈rows,r.length=sz:=by
 intro r hx;obtain⟨i,hi⟩:=qzq hx;exact(qI.get B sz rows off hr i r hi).1
def qbt{B' sz k t n newCap:Nat}{rows vs K'}(hv:qh K rows.flatten vs)(hl:vs.length=rows.length*sz)(hrl:∀r∈rows,r.length=sz)(hat:rows.flatten.all AV.atom=true)
 (hle:K.le K') (hro:∀(j) (v),vs[j]?=some v->K'.ro B' j=some v) (hcap:rows.length<=newCap) (ht:t<K'.nch) (C) (hC:K'.ch t=some C) (hCk:C.k=k) (hCB:C.B=B') (hCs:C.sz=sz)
 (hCf:C.fin=vs.length) (hCc:C.cap=newCap*sz):qg K' (.sl sz rows (.chain t k)) (.slice (some ⟨B',0,none⟩) rows.length newCap):=by
 simp only[qg];refine .inr ⟨B',0,newCap,rfl,hcap,vz rows 0 hrl hat (qDe B' _ 0 fun i a e=>?_),?_⟩
 . obtain⟨v,e1,e2⟩:=hv.get i a e;exact⟨v,by simpa using hro i v e1,e2.mono hle⟩
 refine⟨ht,fun C' hC'=>?_⟩;rw[hC]at hC';cases hC';exact⟨by omega,fun _=>⟨hCB,hCs,rfl,by rw[hCf,hl],hCc.symm⟩⟩
def qb1(h:WRel G w0 ro0 K U w){t:Nat}{s x v:AV}{s' x':Value}(hs:qg K s s')(hx:qg K x x')(ty:Nat){U':St}(hf:qL (Dof P) U t s x=some (v,U')):
 Ran P G w0 ro0 K w (Builtin.append_ #[t,t] ty #[s',x']) v U':=by
 unfold qL at hf;split at hf
 . rename_i i sz rows tok sz2 rows2 hD hro;obtain⟨inf,d,z,hi,hu,_,rfl⟩:=qv hD;simp only at hf;split at hf
   . rename_i e hd;have hd':=Qh hd;subst hd';split at hf
     . rename_i j hj;obtain⟨inf2,d2,z2,hi2,hu2,hz2,rfl⟩:=qv hj;simp only at hf;split at hf
       . rename_i hc;obtain⟨hc1,hc2,hc3,hc4,hc5,hc6⟩:=hc;cases x<;>simp only[zK]at hro<;>try(cases hro;done)
         rename_i szx rowsx tokx;simp only[qyU,qyW]at hro;obtain⟨rfl,rfl⟩:=hro;split at hf
         . -- nothing is appended
           rename_i hn;subst hn;simp only[qyU,qyW]at hf;obtain⟨rfl,rfl⟩:=hf;refine qC6 h (v':=s') ?_ hs;have hx0:∃bx cx,x'=.slice bx 0 cx:=by
            simp only[qg]at hx;rcases hx with⟨⟨a0,rfl,_⟩,_⟩|⟨B2,off2,cap2,rfl,_⟩
            . exact⟨_,_,rfl⟩
            exact⟨_,_,rfl⟩
           obtain⟨bx,cx,rfl⟩:=hx0;have hf0:(Builtin.firstCells inf2.size 0 (.slice bx 0 cx)).run P w=.ok #[] w:=by
            cases bx<;>simp[Builtin.firstCells,loadCells,loadCellsFrom]
           simp only[qg]at hs;rcases hs with⟨⟨a0,rfl,_⟩,rfl,_⟩|⟨B,off,cap,rfl,hcap,_⟩
           . cases a0<;>simp[storeCells,Builtin.append_,run_underlying hu,sizeOf,typeInfo,hi2,Builtin.lenOf,hf0]
           simp[Builtin.append_,run_underlying hu,sizeOf,typeInfo,hi2,Builtin.lenOf,hcap,hf0,storeCells]
         rename_i hn;have hnpos:=qyZ.2 hn;have hszx:=hc2.resolve_right hn;subst hszx;simp only[qg]at hx;rcases hx with⟨_,rfl,_⟩|⟨B2,off2,cap2,rfl,hcap2,hrows2,_⟩
         . exact absurd rfl hn
         obtain⟨news,n1,n2,n3,n4,n5⟩:=wq h hrows2;have hn48:rowsx.length*inf2.bytes<=140737488355328:=by
          calc rowsx.length*inf2.bytes<=549755813888*256:=qzY (by omega) hc5
           _<=140737488355328:=by omega
         have hb48:(rows.length+rowsx.length)*inf2.bytes<=140737488355328:=by
          calc (rows.length+rowsx.length)*inf2.bytes<=549755813888*256:=qzY hc6 hc5
           _<=140737488355328:=by omega
         have rl2:=W5 hrows2
         -- growth into a new block,from whatever is there
         have grow:∀(olds:List Value) (tt k n:Nat) (T':List (Option Nat)),qh K rows.flatten olds->olds.length=rows.length*inf2.size->(∀r∈rows,r.length=inf2.size)->rows.flatten.all AV.atom=true ->
          (∀u k',T'[u]?=some (some k')->(u=tt/\k'=k)\/(u≠tt/\U.T[u]?=some (some k')))->T'[tt]?=some (some k)->(∀u C,u≠tt->K.ch u=some C->∃k',T'[u]?=some (some k'))->n=T'.length->K.nch<=n->tt<n ->
          (tt<K.nch->∃C,K.ch tt=some C/\C.k<k)->∀old:Nat,
          ∃ K',K.le K'/\WRel G w0 ro0 K' {U with T:=T'} (w.drew.alloc (.cells (olds.toArray++news.toArray++Builtin.zeroCells z2.cells (grownCap w (rows.length+rowsx.length) old e-(rows.length+rowsx.length))) e)) /\
           qg K' (.sl inf2.size (rows++rowsx) (.chain tt k)) (.slice (some ⟨w.heap.size,0,none⟩) (rows.length+rowsx.length) (grownCap w (rows.length+rowsx.length) old e)):=by
          intro olds tt k n T' o1 o2 rl1 oa hT hTt hTk hn' hnch htn hk old;have hge:=grownCap_ge w (rows.length+rowsx.length) old e;generalize hcapN:grownCap w (rows.length+rowsx.length) old e=newCap at hge;have hsize:(olds.toArray++news.toArray++Builtin.zeroCells z2.cells (newCap-(rows.length+rowsx.length))).size=newCap*inf2.size:=by
           simp only[Array.size_append,qBJ,size_zeroCells,show z2.cells.size=inf2.size by simpa using hc4,o2,n2,<- qzr];congr 1;omega
          have hvl:(olds++news).length=(rows++rowsx).length*inf2.size:=(by simp[o2,n2,qzr]);obtain⟨w1,w2⟩:=h.drew.chainNew (olds++news) (olds.toArray++news.toArray++Builtin.zeroCells z2.cells (newCap-(rows.length+rowsx.length))) e
           (fun j v ev=>by
             have hjl:=(qyF.1 ev).1;rw[qBl (by simpa using hjl),<- ev];simp) tt k n T' hT hTt hTk hn' hnch hk inf2.size (by
              rw[hsize,hvl];simp only[qyK];exact qzx _ hge)
          refine⟨_,w2,w1,?_⟩;have:=qbt (K:=K) (B':=w.heap.size) (sz:=inf2.size) (k:=k) (t:=tt) (n:=n) (newCap:=newCap) (rows:=rows++rowsx) (vs:=olds++news)
           (by rw[qAF];exact o1.append n1) hvl (fun r hr=>by rcases qy0.1 hr with hr|hr;exact rl1 r hr;exact rl2 r hr) (by rw[qAF,qAa,oa,n4];rfl)
           w2 (fun j v ev=>by
            have hjl:=(qyF.1 ev).1;show(if w.drew.heap.size=w.drew.heap.size/\0<=j/\j<0+(olds++news).length then(olds++news)[j-0]? else K.ro w.heap.size j)=some v;rw[if_pos ⟨rfl,by omega,by omega⟩];exact ev) (by simpa using hge) htn ⟨k,w.heap.size,(olds++news).length,(olds.toArray++news.toArray++Builtin.zeroCells z2.cells (newCap-(rows.length+rowsx.length))).size,inf2.size⟩ (if_pos rfl) rfl rfl rfl rfl hsize
          simpa using this
         split at hf
         . cases hf
         . -- the nil slice
           cases hf;simp only[qg]at hs;rcases hs with⟨⟨a0,rfl,ha0⟩,rfl,_⟩|⟨B,off,cap,rfl,hcap,hrows,htok⟩
           . obtain rfl:=ha0.resolve_right (by simp);obtain⟨K',k1,k2,k3⟩:=grow [] U.T.length rowsx.length (U.T.length+1) (U.T++[some rowsx.length]) (by simp[qh]) (by simp) (by simp) (by simp)
              (fun u k' eu=>by
                rw[qzu]at eu;split at eu
                . rename_i hu';exact .inr ⟨by omega,eu⟩
                rename_i hu';have:u-U.T.length=0:=by
                 rcases qzV (u-U.T.length) with h0|h0
                 . exact h0
                 rw[qy6 (by simp;omega)]at eu;cases eu
                rw[this]at eu;simp at eu;exact .inl ⟨by omega,eu.symm⟩)
              (by simp) (fun u C hu' hC=>by obtain⟨k',hk'⟩:=h.chd u C hC;exact⟨k',by rw[qyT (qyF.1 hk').1];exact hk'⟩) (by simp) (by rw[h.nch];omega) (by omega) (fun hlt=>by rw[h.nch]at hlt;omega) 0
             have hr:=run_append_nil (P:=P) w t ty e inf2 z2 hu hi2 hz2 ⟨B2,off2,none⟩ rowsx.length cap2 news n2 n3 hnpos (by omega) (by omega);simp only[qzH,qz9,qy2,Array.empty_append]at k2 k3;exact⟨_,_,K',hr,k1,k2,k3⟩
           simp only[ky]at htok
         . -- no spare room
           cases hf;have hT1:∀u k',(U.T++[some rowsx.length])[u]?=some (some k')->(u=U.T.length/\k'=rowsx.length)\/(u≠U.T.length/\U.T[u]?=some (some k')):=fun u k' eu=>by
            rw[qzu]at eu;split at eu
            . rename_i hu';exact .inr ⟨by omega,eu⟩
            rename_i hu';have:u-U.T.length=0:=by
             rcases qzV (u-U.T.length) with h0|h0
             . exact h0
             rw[qy6 (by simp;omega)]at eu;cases eu
            rw[this]at eu;simp at eu;exact .inl ⟨by omega,eu.symm⟩
           have hT2:∀u C,u≠U.T.length->K.ch u=some C->∃k',(U.T++[some rowsx.length])[u]?=some (some k'):=fun u C hu' hC=>by
            obtain⟨k',hk'⟩:=h.chd u C hC;exact⟨k',by rw[qyT (qyF.1 hk').1];exact hk'⟩
           simp only[qg]at hs;rcases hs with⟨⟨a0,rfl,ha0⟩,rfl,_⟩|⟨B,off,cap,rfl,hcap,hrows,htok⟩
           . obtain rfl:=ha0.resolve_right (by simp);obtain⟨K',k1,k2,k3⟩:=grow [] U.T.length rowsx.length (U.T.length+1) (U.T++[some rowsx.length]) (by simp[qh]) (by simp) (by simp) (by simp) hT1
              (by simp) hT2 (by simp) (by rw[h.nch];omega) (by omega) (fun hlt=>by rw[h.nch]at hlt;omega) 0
             have hr:=run_append_nil (P:=P) w t ty e inf2 z2 hu hi2 hz2 ⟨B2,off2,none⟩ rowsx.length cap2 news n2 n3 hnpos (by omega) (by omega);simp only[qzH,qz9,qy2,Array.empty_append]at k2 k3;exact⟨_,_,K',hr,k1,k2,k3⟩
           simp only[ky]at htok;subst htok;have hrl1:=W5 hrows;obtain⟨olds,o1,o2,o3,o4,o5⟩:=wq h hrows;have hszr:=hc1;have o2':olds.length=rows.length*inf2.size:=by
            rcases hszr with rfl|hr0
            . exact o2
            subst hr0;simpa using o2
           have hrl1':∀r∈rows,r.length=inf2.size:=by
            rcases hszr with rfl|hr0
            . exact hrl1
            subst hr0;simp
           obtain⟨K',k1,k2,k3⟩:=grow olds U.T.length rowsx.length (U.T.length+1) (U.T++[some rowsx.length]) o1 o2' hrl1' o4 hT1
            (by simp) hT2 (by simp) (by rw[h.nch];omega) (by omega) (fun hlt=>by rw[h.nch]at hlt;omega) rows.length
           have hr:=run_append_grow (P:=P) w t ty e inf2 z2 hu hi2 hz2 ⟨B,off,none⟩ rows.length rows.length olds o2' o3 ⟨B2,off2,none⟩ rowsx.length cap2 news n2 n3 (by omega) (by omega) (growslice_fits (by omega) hb48);exact⟨_,_,K',hr,k1,k2,k3⟩
         -- a row with a free end
         rename_i ct ck;split at hf
         . rename_i hct;obtain⟨hszr,hct⟩:=hct;subst hszr;cases hf;simp only[qg]at hs;rcases hs with⟨_,_,hpl⟩|⟨B,off,cap,rfl,hcap,hrows,htok⟩
           . exact hpl.elim
           obtain⟨ht1,ht2⟩:=htok;obtain⟨C,c1,c2,c3,c4,⟨cs,el,c5,c6⟩,c7,c8⟩:=h.ch ct ck hct;obtain⟨_,t2⟩:=ht2 C c1;obtain⟨t3,t4,t5,t6,t7⟩:=t2 c2.symm;have hctl:=(qyF.1 hct).1;subst t5;have hrl1:=W5 hrows;obtain⟨olds,o1,o2,o3,o4,o5⟩:=wq h hrows;by_cases hroom:rows.length+rowsx.length<=cap
           . have hB:=t3;subst hB;have hmul:rows.length*inf2.size+rowsx.length*inf2.size<=cap*inf2.size:=(by rw[<- qzr];exact qzx _ hroom);have hr:=Ju (P:=P) (w:=w) t ty e el inf2 hu hi2 C.B rows.length cap cs c5 ⟨B2,off2,none⟩ rowsx.length cap2 news n2 n3 n5 hroom (by rw[n2,c6];omega);have hcsl:cs.toList.length=C.cap:=(by simpa using c6);have hmin:min (rows.length*inf2.size) cs.toList.length=rows.length*inf2.size:=(by omega);obtain⟨w1,w2⟩:=h.chainIn c1 (by rw[hct]) news (cs.toList.take (rows.length*inf2.size)++news++cs.toList.drop (rows.length*inf2.size+news.length)).toArray el (ck+rowsx.length) (by omega)
              (w':=w.setRow C.B (cs.toList.take (rows.length*inf2.size)++news++cs.toList.drop (rows.length*inf2.size+news.length)).toArray) rfl rfl rfl (by simp[World.setRow]) (fun j hj=>setRow_other w C.B j _ hj)
              (setRow_heap w C.B cs _ el _ c5) (by simp only[qBJ,qyK,qzo,qAU,hmin,n2];omega) (by rw[n2];omega)
              (fun j v ev=>by
                have hjl:=(qyF.1 ev).1;rw[qA2,qze,qyO (by simp only[qzo,hmin];omega),qyT (by simp only[qzo,hmin];omega)];simp only[qzo,hmin,<- t6];rw[show rows.length*inf2.size+j-rows.length*inf2.size=j by omega];exact ev)
              (fun cs2 el2 e2 j hj=>by
                rw[c5]at e2;cases e2;rw[qA2,qze,qyT (by simp only[qzo,hmin];omega),qzD,if_pos (by omega)];simp)
             refine⟨_,_,_,hr,w2,w1,?_⟩;have hro:∀(j:Nat) (u:Value),(olds++news)[j]?=some u->((K.addRo C.B C.fin news).setCh ct ⟨ck+rowsx.length,C.B,C.fin+news.length,C.cap,C.sz⟩ K.nch).ro C.B j=some u:=by
              intro j u eu;show(if C.B=C.B/\C.fin<=j/\j<C.fin+news.length then news[j-C.fin]? else K.ro C.B j)=some u;rw[qzu]at eu;split at eu
              . rename_i hjl;rw[if_neg (by omega)];have hcol:=qI.flat C.B inf2.size rows 0 hrows;obtain⟨a0,ha0⟩:∃a0,rows.flatten[j]?=some a0:=⟨_,qyH (by rwa[<- o1.length])⟩;obtain⟨v0,e0,_⟩:=qm.get C.B _ 0 hcol.1 j a0 ha0;have hc0:=h.ro _ _ _ e0;have hu0:=o3 j u eu;rw[jg]at hu0;rw[hu0]at hc0;rw[hc0];simpa using e0
              rename_i hjl;have hjl2:=(qyF.1 eu).1
              rwa[if_pos ⟨rfl,by omega,by omega⟩,<- t6,<- o2]
             have:=qbt (K:=K) (B':=C.B) (sz:=inf2.size) (k:=ck+rowsx.length) (t:=ct) (n:=0) (newCap:=cap) (rows:=rows++rowsx) (vs:=olds++news)
              (by rw[qAF];exact o1.append n1) (by simp[o2,n2,qzr]) (fun r hr=>by rcases qy0.1 hr with hr|hr;exact hrl1 r hr;exact rl2 r hr) (by rw[qAF,qAa,o4,n4];rfl)
              w2 hro (by simpa using hroom) (by show ct<K.nch;rwa[h.nch]) ⟨ck+rowsx.length,C.B,C.fin+news.length,C.cap,C.sz⟩ (if_pos rfl) rfl rfl t4
              (by simp only[qyK,o2,t6]) (by simp only[<- t7])
             simpa using this
           obtain⟨K',k1,k2,k3⟩:=grow olds ct (ck+rowsx.length) U.T.length (U.T.set ct (some (ck+rowsx.length))) o1 o2 hrl1 o4
            (fun u k' eu=>by
              by_cases hu':u=ct
              . subst hu';simp[hctl]at eu;exact .inl ⟨rfl,eu.symm⟩
              rw[qyI (Ne.symm hu')]at eu;exact .inr ⟨hu',eu⟩)
            (by simp[hctl]) (fun u C' hu' hC'=>by obtain⟨k',hk'⟩:=h.chd u C' hC';exact⟨k',by rw[qyI (Ne.symm hu')];exact hk'⟩) (by simp) (by rw[h.nch];omega) hctl
            (fun _=>⟨C,c1,by omega⟩) cap
           have hr:=run_append_grow (P:=P) w t ty e inf2 z2 hu hi2 hz2 ⟨B,0,none⟩ rows.length cap olds o2 o3 ⟨B2,off2,none⟩ rowsx.length cap2 news n2 n3 (by omega) (by omega) (growslice_fits (by omega) hb48);exact⟨_,_,K',hr,k1,k2,k3⟩
         cases hf
       cases hf
     cases hf
   cases hf
 cases hf
end
section
variable {P:Program}{G:Nat->AV}{w0:World}{ro0:Nat->Nat->Option Value}{K:Kn}{U:St}{w w':World}
def KM{n}(h0:0<=n)(h1:n<=549755813888):IntKind.i64.wrap n=n:=by
 have:n%18446744073709551616=n:=Int.emod_eq_of_lt h0 (by omega);simp only[IntKind.wrap,IntKind.bits,IntKind.signed,qzN];simp only[show((2:Int)^(64:Nat))=18446744073709551616 from rfl,show((2:Int)^((64:Nat)-1))=9223372036854775808 from rfl,this];rw[if_neg (by simp;omega)]
def qtH{T:List (Option Nat)}{n:Nat}(u k':Nat)(eu:(T++[some n])[u]?=some (some k')):(u=T.length/\k'=n)\/(u≠T.length/\T[u]?=some (some k')):=by
 rw[qzu]at eu;split at eu
 . rename_i hu';exact .inr ⟨by omega,eu⟩
 rename_i hu';have:u-T.length=0:=by
  rcases qzV (u-T.length) with h0|h0
  . exact h0
  rw[qy6 (by simp;omega)]at eu;cases eu
 rw[this]at eu;simp at eu;exact .inl ⟨by omega,eu.symm⟩
def vE(h:WRel G w0 ro0 K U w){t l c v l' c'}(hl:qg K l l')(hc:qg K c c'){U'}(hf:qz (Dof P) U t l c=some (v,U')):
 Ran P G w0 ro0 K w (Instr.makeSlice t l' c') v U':=by
 unfold qz at hf;split at hf
 . rename_i i ln cn hD hln hcn;obtain⟨inf,d,z,hi,hu,_,rfl⟩:=qv hD;obtain⟨k1,rfl⟩:=jZ hln hl;obtain⟨k2,rfl⟩:=jZ hcn hc;simp only at hf;split at hf
   . rename_i e hd;have hd':=Qh hd;subst hd';split at hf
     . rename_i j hj;obtain⟨inf2,d2,z2,hi2,hu2,hz2,rfl⟩:=qv hj;simp only at hf;split at hf
       . rename_i hcond;obtain⟨b1,b2,b3,b4,b5,b6,b7⟩:=hcond;have hzs:z2.cells.size=inf2.size:=(by simpa using b6);have hwl:=KM b1 (by omega);have hwc:=KM (by omega) b3;have hcb:cn.toNat*inf2.bytes<=140737488355328:=by
          calc cn.toNat*inf2.bytes<=549755813888*256:=qzY (by omega) b4
           _<=140737488355328:=by omega
         have hcb':(inf2.bytes:Int)*cn<=140737488355328:=by
          have:=Int.ofNat_le.2 hcb
          rwa[qAN,Int.toNat_of_nonneg (by omega),Int.mul_comm]at this
         have hlarge:¬(281474976710656<(inf2.bytes:Int)*cn):=(by omega);have hn0:∀n:Nat,n*inf2.size=0↔n=0:=by
          intro n;rw[Nat.mul_eq_zero];omega
         have hrun:(Instr.makeSlice t (.int k1 ln) (.int k2 cn)).run P w=.ok (.slice (some ⟨w.heap.size,0,none⟩) ln.toNat cn.toNat)
          (w.alloc (.cells ((Array.range (cn.toNat*inf2.size)).map (fun j=>(if cn.toNat*inf2.size=0 then #[] else z2.cells)[j%(if cn.toNat*inf2.size=0 then #[] else z2.cells).size]!)) e)):=by
          simp only[Instr.makeSlice,Sem.run_bind,run_underlying hu,Result.andThen_ok];have hnot:¬(cn<0):=(by omega);have hnl:¬(ln<0):=(by omega);have hnc:¬(ln > cn):=(by omega);by_cases hz:cn.toNat*inf2.size=0
          . simp[asInt,asIntOf,typeInfo,hi2,hwl,hwc,hlarge,hnot,hnl,hnc,askRoom,sizeOf,zeroValue,hz2,newRow,hz]
          simp[asInt,asIntOf,typeInfo,hi2,hwl,hwc,hlarge,hnot,hnl,hnc,askRoom,sizeOf,zeroValue,hz2,newRow,hz]
         split at hf
         . rename_i hl0;subst hl0;cases hf;obtain⟨w1,w2⟩:=h.chainNew [] ((Array.range (cn.toNat*inf2.size)).map (fun j=>(if cn.toNat*inf2.size=0 then #[] else z2.cells)[j%(if cn.toNat*inf2.size=0 then #[] else z2.cells).size]!)) e (by simp)
            U.T.length 0 (U.T.length+1) (U.T++[some 0]) qtH (by simp)
            (fun u C hu' hC=>by obtain⟨k',hk'⟩:=h.chd u C hC;exact⟨k',by rw[qyT (qyF.1 hk').1];exact hk'⟩) (by simp) (by rw[h.nch];omega)
            (fun hlt=>by rw[h.nch]at hlt;omega) inf2.size (by simp)
           refine⟨_,_,_,hrun,w2,w1,?_⟩;simp only[qg];refine .inr ⟨w.heap.size,0,cn.toNat,rfl,by simp,by simp[qI],?_⟩;refine⟨by show U.T.length<U.T.length+1;omega,fun C hC=>?_⟩;have:C=⟨0,w.heap.size,0,cn.toNat*inf2.size,inf2.size⟩:=by
            simp[Kn.setCh]at hC;exact hC.symm
           subst this;exact⟨qyQ _,fun _=>⟨rfl,by simp⟩⟩
         rename_i hl0;cases hf;have hcpos:¬cn.toNat*inf2.size=0:=(by rw[hn0];omega);rw[if_neg hcpos]at hrun;have hz0:=J2 (K:=K) (z:=z2) (n:=cn.toNat) (by omega);rw[hzs]at hz0;refine⟨_,_,K.addM U.H.length w.heap.size (jI _),hrun,qCZ h _ _,h.push ?_,?_⟩
         . refine⟨_,e,rfl,?_,?_,?_⟩
           . rw[qyP];intro x hx;obtain⟨l,hl1,hl2⟩:=qzl.1 hx;rw[(qAx.1 hl1).2]at hl2;rw[qyP]at b7;exact b7 x hl2
           . have:ln.toNat*inf2.size<=cn.toNat*inf2.size:=qzx _ (by omega);simp[hzs];exact this
           . intro j a ea;have hjl:j<ln.toNat*inf2.size:=by
              have:=(qyF.1 ea).1;simpa[hzs] using this
             have hle:ln.toNat*inf2.size<=cn.toNat*inf2.size:=qzx _ (by omega);have hzl:(z2.cells.toList.map ofAtom).length=inf2.size:=(by simp[hzs]);rw[jB _ _ _ (by rwa[hzl])]at ea;have e2:((List.replicate cn.toNat (z2.cells.toList.map ofAtom)).flatten)[j]?=some a:=by
              rw[jB _ _ _ (by rw[hzl];omega)];exact ea
             obtain⟨v,e3,e4⟩:=hz0.get j a e2;refine⟨v,?_,e4⟩
             rwa[<- Array.getElem?_toList,hzs]
         simp only[qg];exact⟨w.heap.size,cn.toNat,by simp[Kn.addM],rfl,by omega,by omega,by simp[Kn.addM,jI,hzs]⟩
       cases hf
     cases hf
   cases hf
 cases hf
def Vk(h:WRel G w0 ro0 K U w)(t:Nat):Ran P G w0 ro0 K w (Instr.makeMap t none) (.map U.H.length) (U.push (.map [] 0)):=by
 refine⟨.map (some w.heap.size),w.alloc (.map #[] 0),K.addM U.H.length w.heap.size (jI _),?_,qCZ h _ _,h.push ?_,?_⟩
 . simp[Instr.makeMap]
 . exact⟨#[],by simp⟩
 simp only[qg];exact⟨w.heap.size,by simp[Kn.addM],rfl⟩
def Q7{k v}(h:zt (Dof P) k v=true):(∃kd kk n,P.underlying k=some (.int kd)/\v=.int kk n)\/(∃s,P.underlying k=some .string/\v=.str s)\/∃c tds,v=.agg c/\Y1 (Dof P) k=some tds/\zR tds c=true:=by
 unfold zt at h;split at h
 . rename_i i hD;obtain⟨inf,d,z,hi,hu,_,rfl⟩:=qv hD;simp only at h;split at h
   . rename_i kd kk n hd;exact .inl ⟨kd,kk,n,by rw[hu,Jc hd],rfl⟩
   . rename_i s hd;exact .inr (.inl ⟨s,by rw[hu,vu hd],rfl⟩)
   . rename_i c hd;obtain⟨tds,h1,h2⟩:=(Option.any_eq_true _ _).1 h;exact .inr (.inr ⟨c,tds,rfl,h1,h2⟩)
   cases h
 cases h
def vQ {b m cs K} : ∀ (fs : List Field) (k : Nat) (as), (∀ f ∈ fs, yM (Dof P) f.type = true ∧ f.name ≠ "_") → fs.map (·.offset) = List.range' k fs.length → as.length = fs.length → qh K as (cs.toList.drop k) →
 (forIn fs PUnit.unit (fun f (_:PUnit)=>
   if f.name ≠ "_" then do
    let x <- part f.type cs f.offset
    Instr.checkKey b (m+1) f.type x
    pure (ForInStep.yield PUnit.unit)
   else pure (ForInStep.yield PUnit.unit)):Sem PUnit).run P w=.ok PUnit.unit w
 |[],k,as,_,_,_,_=>by simp[pure]
 |f::fs,k,[],_,_,hl,_=>by simp at hl
 | f::fs,k,a::as,hf,ho,hl,hr=>by
  simp only[qyR,qyY,qAI,qA3]at ho;obtain⟨ho1,ho2⟩:=ho;simp only[qh]at hr;obtain⟨v,vr,e1,hv,hvr⟩:=hr;have hx:cs[k]?=some v:=by
   have:=qzG (xs:=cs.toList) (i:=k) (j:=0);rw[e1]at this;simpa using this.symm
  have hd:cs.toList.drop (k+1)=vr:=by
   rw[<- List.drop_drop,e1];rfl
  obtain⟨hp,hnm⟩:=hf f (by simp);obtain⟨inf,hi,hu⟩:=wM hp;have hagg:(isAgg f.type).run P w=.ok false w:=by
   rcases hu with hu|hu|⟨k,hu⟩<;>simp[isAgg,run_underlying hu]
  have ih:=vQ (b:=b) (m:=m) (cs:=cs) (K:=K) fs (k+1) as (fun x hx=>hf x (by simp[hx])) ho2 (by simpa using hl) (hd▸hvr);have hck:(Instr.checkKey b (m+1) f.type v).run P w=.ok () w:=by
   rw[Instr.checkKey];rcases hu with hu|hu|⟨k,hu⟩<;>simp[run_underlying hu]
  have hpt:(part f.type cs k).run P w=.ok v w:=by simp[part,hagg,hx]
  rw[List.forIn_cons];simp only[ne_eq,hnm,not_false_eq_true,if_true,Sem.run_bind,ho1,hpt,Result.andThen_ok,hck];exact ih
def Jn{k v v'}(h:zt (Dof P) k v=true)(hv:qg K v v')(b):(Instr.checkKey b 10000 k v').run P w=.ok () w:=by
 have e:Instr.checkKey b 10000 k v'=Instr.checkKey b (9998+1+1) k v':=rfl;rw[e,Instr.checkKey];generalize 9998=m;rcases Q7 h with⟨kd,kk,n,hu,rfl⟩|⟨s,hu,rfl⟩|⟨c,tds,rfl,hfl,hfit⟩
 . simp only[qg]at hv;subst hv;simp[run_underlying hu]
 . simp only[qg]at hv;subst hv;simp[run_underlying hu]
 simp only[qg]at hv;obtain⟨cs,rfl,hcs⟩:=hv;obtain⟨fields,hu,hst,rfl,hpl,hoff⟩:=ZM hfl;obtain⟨hl,hk⟩:=kW _ _ hfit;have:=vQ (P:=P) (w:=w) (b:=b) (m:=m) (cs:=cs) (K:=K) fields.toList 0 c hpl (by rw[hoff,qAB];simp) (by simpa using hl) (by simpa using hcs);simp only[Sem.run_bind,run_underlying hu,Result.andThen_ok];rw[<- Array.forIn_toList,this];rfl
def qcz(a b:List UInt8):((⟨a.toArray⟩:ByteArray) == ⟨b.toArray⟩)=(a==b):=by
 rw[beq_toListBytes,yn,yn]
def QE{k:Nat}{x:AV}{x':Value}(hk:(∃kd kk n,P.underlying k=some (.int kd)/\x=.int kk n)\/∃s,P.underlying k=some .string/\x=.str s)(hx:qg K x x'):∀(es:List (AV×AV×Nat)) (es':List MapEntry) (i:Nat) (r:Option (Nat×AV)),es'.length=es.length ->
 (∀(j:Nat) (k v:AV) (b:Nat),es[j]?=some (k,v,b)->∃e:MapEntry,es'[j]?=some e/\qg K k e.key/\qg K v e.val/\e.born=b)->jz x es i=some r ->
 ∃ d r',P.underlying k=some d/\Instr.findNow d x' es' i=some r'/\(match r with
  |some (j,v)=>∃v',r'=some (j,v')/\qg K v v'/\i<=j/\∃e:MapEntry,es'[j-i]?=some e/\Instr.sameBits 10000 e.key x'=true
  |none=>r'=none)
 | [],[],i,r,_,_,hf=>by
  simp[jz]at hf;subst hf;rcases hk with⟨kd,kk,n,hu,rfl⟩|⟨s,hu,rfl⟩
  . exact⟨_,none,hu,rfl,rfl⟩
  exact⟨_,none,hu,rfl,rfl⟩
 |[],_::_,i,r,hl,_,hf=>by simp at hl
 |_::_,[],i,r,hl,_,hf=>by simp at hl
 | (k1,v1,b1)::es,e1::es',i,r,hl,he,hf=>by
  obtain⟨e0,h1,h2,h3,h4⟩:=he 0 k1 v1 b1 (by simp);simp at h1;subst h1;have ih:=QE hk hx es es' (i+1);simp only[jz]at hf;have same:∀p,Qj x k1=some p->∀d,P.underlying k=some d->Instr.sameNow d x' e1.key=some p/\(p=true->Instr.sameBits 10000 e1.key x'=true):=by
   intro p hp d hd;rcases hk with⟨kd,kk,n,hu,rfl⟩|⟨s,hu,rfl⟩
   . rw[hu]at hd;cases hd;cases k1<;>simp only[Qj]at hp<;>try(cases hp;done)
     split at hp
     . rename_i hkk;subst hkk;simp only[qyU]at hp;simp only[qg]at hx h2;rw[hx,h2];refine⟨by simp[Instr.sameNow,hp],fun ht=>?_⟩;rw[ht]at hp;have:n=_:=eq_of_beq hp;simp[Instr.sameBits,this]
     cases hp
   rw[hu]at hd;cases hd;cases k1<;>simp only[Qj]at hp<;>try(cases hp;done)
   simp only[qyU]at hp;simp only[qg]at hx h2;rw[hx,h2];refine⟨by simp[Instr.sameNow,qcz,hp],fun ht=>?_⟩;rw[ht]at hp;have:s=_:=eq_of_beq hp;simp[Instr.sameBits,qcz,this]
  split at hf
  . rename_i hke;simp only[qyU]at hf;subst hf;rcases hk with⟨kd,kk,n,hu,_⟩|⟨s,hu,_⟩
    all_goals
     obtain⟨s1,s2⟩:=same true hke _ hu;refine⟨_,some (i,e1.val),hu,by simp only[Instr.findNow,s1],e1.val,rfl,h3,qyQ _,e1,by simp,s2 rfl⟩
  . rename_i hke;obtain⟨d,r',g1,g2,g3⟩:=ih r (by simpa using hl) (fun j k v b e=>by simpa using he (j+1) k v b (by simpa using e)) hf;obtain⟨s1,_⟩:=same false hke d g1;refine⟨d,r',g1,by simp only[Instr.findNow,s1];exact g2,?_⟩
    cases r with
    |none=>exact g3
    | some jv=>
     obtain⟨j,v⟩:=jv;obtain⟨v',a1,a2,a3,e,a4,a5⟩:=g3;refine⟨v',a1,a2,by omega,e,?_,a5⟩;rw[show j-i=(j-(i+1))+1 by omega];simpa using a4
  cases hf
def Jo:∀{a b:List AV},zY a b=some true->a=b
 |[],[],_=>rfl
 |[],_::_,h=>by simp[zY]at h
 |_::_,[],h=>by simp[zY]at h
 | x::a,y::b,h=>by
  simp only[zY]at h;split at h
  . rename_i p q hp hq;simp only[qyU,qyJ]at h;rw[h.1]at hp;rw[h.2]at hq;rw[Jo hq];cases x<;>cases y<;>simp only[kc]at hp<;>first|(cases hp;done)|skip
    . simp at hp;rw[hp]
    . split at hp
      . rename_i e;subst e;simp at hp;rw[hp]
      . cases hp
    simp at hp;rw[hp]
  cases h
def Qo{m}:∀{tds:List TD}{a:List AV}{x y:List Value},zR tds a=true->qh K a x->qh K a y->x.length=y.length/\((x.zip y).all fun(u,v)=>Instr.sameBits m u v)=true
 |[],[],_,_,_,hx,hy=>by simp only[qh]at hx hy;subst hx hy;simp
 |[],_::_,_,_,h,_,_=>by simp[zR]at h
 |td::_,[],_,_,h,_,_=>by cases td<;>simp[zR]at h
 | td::tds,c::a,x,y,h,hx,hy=>by
  simp only[qh]at hx hy;obtain⟨u,x',rfl,hu,hx⟩:=hx;obtain⟨v,y',rfl,hv,hy⟩:=hy;have h2:zR tds a=true/\Instr.sameBits m u v=true:=by
   cases td<;>cases c<;>simp[zR]at h<;>simp only[qg]at hu hv<;>subst hu hv<;>exact⟨h,by simp[Instr.sameBits,qcz]⟩
  obtain⟨i1,i2⟩:=Qo (m:=m) h2.1 hx hy;exact⟨by simp[i1],by simp only[qB3,qAh,h2.2,qzN];exact i2⟩
def Y3{k c tds x'}(hfl:Y1 (Dof P) k=some tds)(hfit:zR tds c=true)(hx:qg K (.agg c) x'):∀(es:List (AV×AV×Nat)) (es':List MapEntry) (i) (r),es'.length=es.length ->
 (∀(j:Nat) (k v:AV) (b:Nat),es[j]?=some (k,v,b)->∃e:MapEntry,es'[j]?=some e/\qg K k e.key/\qg K v e.val/\e.born=b)->jz (.agg c) es i=some r ->
 ∃ r',(Instr.findAsking k x' es' i).run P w=.ok r' w/\(match r with
  |some (j,v)=>∃v',r'=some (j,v')/\qg K v v'/\i<=j/\∃e:MapEntry,es'[j-i]?=some e/\Instr.sameBits 10000 e.key x'=true
  |none=>r'=none)
 | [],[],i,r,_,_,hf=>by
  simp[jz]at hf;subst hf;exact⟨none,rfl,rfl⟩
 |[],_::_,i,r,hl,_,hf=>by simp at hl
 |_::_,[],i,r,hl,_,hf=>by simp at hl
 | (k1,v1,b1)::es,e1::es',i,r,hl,he,hf=>by
  obtain⟨e0,h1,h2,h3,h4⟩:=he 0 k1 v1 b1 (by simp);simp at h1;subst h1;have ih:=Y3 hfl hfit hx es es' (i+1);simp only[jz]at hf;have same:∀p,Qj (.agg c) k1=some p->(Op.equal k x' e1.key).run P w=.ok p w/\(p=true->Instr.sameBits 10000 e1.key x'=true):=by
   intro p hp;cases k1<;>simp only[Qj]at hp<;>try(cases hp;done)
   rename_i d;simp only[qg]at hx h2;obtain⟨xs,rfl,hxs⟩:=hx;obtain⟨ys,hy,hys⟩:=h2;rw[hy];refine⟨?_,fun ht=>?_⟩
   . refine(Ka (t:=k) (a:=c) (b:=d) ?_ hxs hys).2;simp only[VC,hfl,if_pos hfit,hp]
   subst ht;have:=Jo hp;subst this;obtain⟨g1,g2⟩:=Qo (m:=9999) hfit hys hxs;show(ys.size==xs.size&&_)=true;simp only[qzS]at g1;rw[g1,beq_self_eq_true,qzN];exact g2
  split at hf
  . rename_i hke;simp only[qyU]at hf;subst hf;obtain⟨s1,s2⟩:=same true hke;exact⟨some (i,e1.val),by simp[Instr.findAsking,s1],e1.val,rfl,h3,qyQ _,e1,by simp,s2 rfl⟩
  . rename_i hke;obtain⟨r',g2,g3⟩:=ih r (by simpa using hl) (fun j k v b e=>by simpa using he (j+1) k v b (by simpa using e)) hf;obtain⟨s1,_⟩:=same false hke;refine⟨r',by simp[Instr.findAsking,s1];exact g2,?_⟩
    cases r with
    |none=>exact g3
    | some jv=>
     obtain⟨j,v⟩:=jv;obtain⟨v',a1,a2,a3,e,a4,a5⟩:=g3;refine⟨v',a1,a2,by omega,e,?_,a5⟩;rw[show j-i=(j-(i+1))+1 by omega];simpa using a4
  cases hf
def wS{k:Nat}{x:AV}{x':Value}(hk:zt (Dof P) k x=true)(hx:qg K x x')(es:List (AV×AV×Nat))(es':List MapEntry)(r:Option (Nat×AV))(hl:es'.length=es.length)
 (he:∀(j:Nat) (k v:AV) (b:Nat),es[j]?=some (k,v,b)->∃e:MapEntry,es'[j]?=some e/\qg K k e.key/\qg K v e.val/\e.born=b) (hf:jz x es 0=some r):
 ∃ r',(Instr.findKey k x' es').run P w=.ok r' w/\(match r with
  |some (j,v)=>∃v',r'=some (j,v')/\qg K v v'/\∃e:MapEntry,es'[j]?=some e/\Instr.sameBits 10000 e.key x'=true
  |none=>r'=none):=by
 rcases Q7 hk with h|h|⟨c,tds,rfl,hfl,hfit⟩
 . obtain⟨d,r',g1,g2,g3⟩:=QE (.inl h) hx es es' 0 r hl he hf;refine⟨r',by simp only[Instr.findKey,Sem.run_bind,run_underlying g1,Result.andThen_ok,g2];rfl,?_⟩
   cases r with
   |none=>exact g3
   |some jv=>obtain⟨v',a1,a2,_,e,a4,a5⟩:=g3;exact⟨v',a1,a2,e,by simpa using a4,a5⟩
 . obtain⟨d,r',g1,g2,g3⟩:=QE (.inr h) hx es es' 0 r hl he hf;refine⟨r',by simp only[Instr.findKey,Sem.run_bind,run_underlying g1,Result.andThen_ok,g2];rfl,?_⟩
   cases r with
   |none=>exact g3
   |some jv=>obtain⟨v',a1,a2,_,e,a4,a5⟩:=g3;exact⟨v',a1,a2,e,by simpa using a4,a5⟩
 obtain⟨r',g2,g3⟩:=Y3 (w:=w) hfl hfit hx es es' 0 r hl he hf;obtain⟨fields,hu,_⟩:=ZM hfl;refine⟨r',?_,?_⟩
 . simp only[Instr.findKey,Sem.run_bind,run_underlying hu,Result.andThen_ok]
   cases es' with
   |nil=>simpa[Instr.findNow,Instr.findAsking] using g2
   | cons e es'=>
    have:Instr.findNow (.struct fields) x' (e::es') 0=none:=by
     simp only[qg]at hx;obtain⟨xs,rfl,_⟩:=hx;simp[Instr.findNow,Instr.sameNow]
    rwa[this]
 cases r with
 |none=>exact g3
 |some jv=>obtain⟨v',a1,a2,_,e,a4,a5⟩:=g3;exact⟨v',a1,a2,e,by simpa using a4,a5⟩
def qbf(h:WRel G w0 ro0 K U w){t m k v m' k'}(hm:qg K m m')(hk:qg K k k'){ok}(hf:zl (Dof P) U t m k ok=some v):
 ∃v',(Instr.lookup t m' k' ok).run P w=.ok v' w/\qg K v v':=by
 unfold zl at hf;split at hf
 . rename_i i hD;obtain⟨inf,d,z,hi,hu,_,rfl⟩:=qv hD;simp only at hf;split at hf
   . rename_i kt et hd;have:=qat hd;subst this;split at hf
     . rename_i hko;split at hf
       . rename_i es hes
         -- the entries,as they lie
         have hent:∃es':Array MapEntry,((m'=.map none/\es' = #[])\/∃B clock,m'=.map (some B)/\(getObj B).run P w=.ok (.map es' clock) w)/\es'.toList.length=es.length /\
          ∀(j:Nat) (k v:AV) (b:Nat),es[j]?=some (k,v,b)->∃e:MapEntry,es'.toList[j]?=some e/\qg K k e.key/\qg K v e.val/\e.born=b:=by
          split at hes
          . cases hes;simp only[qg]at hm;subst hm;exact⟨#[],.inl ⟨rfl,rfl⟩,by simp⟩
          . rename_i b;split at hes
            . rename_i es0 clock hb;cases hes;simp only[qg]at hm;obtain⟨B,hm1,rfl⟩:=hm;obtain⟨B',h1,_,_,⟨es',h4,h5,h6⟩,_⟩:=h.blk b _ hb;rw[hm1]at h1;cases h1;exact⟨es',.inr ⟨B,clock,rfl,by simp[getObj,Sem.run,h4]⟩,by simpa using h5,fun j k v b e=>by simpa using h6 j k v b e⟩
            cases hes
          cases hes
         obtain⟨es',e1,e2,e3⟩:=hent;have hck:=fun b=>Jn (P:=P) (w:=w) hko hk b
         split at hf
         . rename_i idx v0 hfa;cases hf;obtain⟨r',g2,v',rfl,g4,_⟩:=wS (w:=w) hko hk es es'.toList _ e2 e3 hfa;refine⟨if ok then .tuple #[v',.bool true] else v',?_,by split<;>simp[qg,qh,g4]⟩;rcases e1 with⟨rfl,rfl⟩|⟨B,clock,rfl,e1⟩
           . simp only[Instr.lookup,Sem.run_bind,run_underlying hu,Result.andThen_ok];simp only[pure,Sem.run,Result.andThen_ok,hck,g2,Sem.run_bind]
           simp only[Instr.lookup,Sem.run_bind,run_underlying hu,Result.andThen_ok,e1];simp only[pure,Sem.run,Result.andThen_ok,hck,g2,Sem.run_bind]
         . rename_i hfa;obtain⟨zv,hz,rfl⟩:=qyM.1 hf;obtain⟨r',g2,g3⟩:=wS (w:=w) hko hk es es'.toList _ e2 e3 hfa;simp only at g3;subst g3;unfold qad at hz;split at hz
           . rename_i j hj;obtain⟨inf2,d2,z2,hi2,hu2,hz2,rfl⟩:=qv hj;cases hz;have hzr:=qg.ofV K z2;refine⟨if ok then .tuple #[z2,.bool false] else z2,?_,by split<;>simp[qg,qh,hzr]⟩;rcases e1 with⟨rfl,rfl⟩|⟨B,clock,rfl,e1⟩
             . simp only[Instr.lookup,Sem.run_bind,run_underlying hu,Result.andThen_ok];simp only[pure,Sem.run,Result.andThen_ok,hck,g2,Sem.run_bind];simp[zeroValue,typeInfo,hi2,hz2]
             simp only[Instr.lookup,Sem.run_bind,run_underlying hu,Result.andThen_ok,e1];simp only[pure,Sem.run,Result.andThen_ok,hck,g2,Sem.run_bind];simp[zeroValue,typeInfo,hi2,hz2]
           cases hz
         cases hf
       cases hf
     cases hf
   cases hf
 cases hf
def YI(h:WRel G w0 ro0 K U w){t m k v m' k' v'}(hm:qg K m m')(hk:qg K k k')(hv:qg K v v'){U'}(hf:q9 (Dof P) U t m k v=some U'):
 ∃w',(Instr.mapUpdate t m' k' v').run P w=.ok () w'/\WRel G w0 ro0 K U' w':=by
 unfold q9 at hf;split at hf
 . rename_i i hD;obtain⟨inf,d,z,hi,hu,_,rfl⟩:=qv hD;simp only at hf;split at hf
   . rename_i kt et hd;have:=qat hd;subst this;split at hf
     . rename_i hko;split at hf
       . rename_i b;split at hf
         . rename_i es clock hb;simp only[qg]at hm;obtain⟨B,hm1,rfl⟩:=hm;obtain⟨B',h1,hB0,hBl,⟨es',h4,h5,h6⟩,_⟩:=h.blk b _ hb;rw[hm1]at h1;cases h1;have hbl:=(qyF.1 hb).1;have hck:=Jn (P:=P) (w:=w) hko hk false;have hset:∀(o:Obj),(setObj B o).run P w=.ok () {w with heap:=w.heap.setIfInBounds B o}:=by
            intro o;simp[setObj,Sem.run,h4]
           have hkeep:∀o:Obj,(∀k,k≠B->({w with heap:=w.heap.setIfInBounds B o}:World).heap[k]?=w.heap[k]?):=by
            intro o k hk;simp[qBc (Ne.symm hk)]
           split at hf
           . rename_i idx v0 hfa;cases hf;obtain⟨r',g2,v1,rfl,g4,e0,g5,g6⟩:=wS (w:=w) hko hk es es'.toList _ (by simpa using h5) (fun j k v b e=>by simpa using h6 j k v b e) hfa;refine⟨{w with heap:=w.heap.setIfInBounds B (.map (es'.modify idx fun e=>{e with key:=k',val:=v'}) clock)},?_,?_⟩
             . simp only[Instr.mapUpdate,Sem.run_bind,run_underlying hu,Result.andThen_ok];simp[getObj,Sem.run,h4,hck,g2,Instr.keyThatStays,show es'[idx]?=some e0 by simpa using g5,g6,hset]
             refine h.setBlk (B:=B) hbl hm1 rfl rfl rfl (by simp) (hkeep _) ?_ (by rw[hb];simp) (fun cs2 el2 fr2 e2=>by simp[hBl]at e2) (fun cs2 el2 fr2 e2=>by simp[hBl]at e2);refine⟨es'.modify idx fun e=>{e with key:=k',val:=v'},by simp[hBl],by simp[h5],?_⟩;intro j k2 v2 b2 e2;rw[qAC]at e2
             cases hj:es[j]? with
             |none=>simp[hj]at e2
             | some kvb=>
              obtain⟨k3,v3,b3⟩:=kvb;obtain⟨e,a1,a2,a3,a4⟩:=h6 j k3 v3 b3 hj;rw[hj]at e2;rw[Array.getElem?_modify,a1];by_cases hji:idx=j
              . simp only[if_pos hji,Option.map_eq_map,qBt,qyU,qyW]at e2;obtain⟨rfl,rfl,rfl⟩:=e2;rw[if_pos hji];exact⟨_,rfl,hk,hv,a4⟩
              simp only[if_neg hji,Option.map_eq_map,qBt,qyU,qyW]at e2;obtain⟨rfl,rfl,rfl⟩:=e2;rw[if_neg hji];exact⟨e,rfl,a2,a3,a4⟩
           . rename_i hfa;cases hf;obtain⟨r',g2,g3⟩:=wS (w:=w) hko hk es es'.toList _ (by simpa using h5) (fun j k v b e=>by simpa using h6 j k v b e) hfa;simp only at g3;subst g3;refine⟨{w with heap:=w.heap.setIfInBounds B (.map (es'.push {key:=k',val:=v',born:=clock}) (clock+1))},?_,?_⟩
             . simp only[Instr.mapUpdate,Sem.run_bind,run_underlying hu,Result.andThen_ok];simp[getObj,Sem.run,h4,hck,g2,hset]
             refine h.setBlk (B:=B) hbl hm1 rfl rfl rfl (by simp) (hkeep _) ?_ (by rw[hb];simp) (fun cs2 el2 fr2 e2=>by simp[hBl]at e2) (fun cs2 el2 fr2 e2=>by simp[hBl]at e2);refine⟨es'.push {key:=k',val:=v',born:=clock},by simp[hBl],by simp[h5],?_⟩;intro j k2 v2 b2 e2;rw[qzu]at e2;rw[Array.getElem?_push];split at e2
             . rename_i hj;rw[if_neg (by omega)];exact h6 j k2 v2 b2 e2
             rename_i hj;have:j-es.length=0:=by
              rcases qzV (j-es.length) with h0|h0
              . exact h0
              rw[qy6 (by simp;omega)]at e2;cases e2
             rw[this]at e2;simp at e2;obtain⟨rfl,rfl,rfl⟩:=e2;rw[if_pos (by omega)];exact⟨_,rfl,hk,hv,rfl⟩
           cases hf
         cases hf
       cases hf
     cases hf
   cases hf
 cases hf
end
section
variable {P:Program}{G:Nat->AV}{w0:World}{ro0:Nat->Nat->Option Value}{K:Kn}{U:St}{w w':World}{N:Nat}{env:Env}{a:Act}
def qcE(h:WRel G w0 ro0 K U w){t:Nat}{x:Value}{s:List UInt8}(hu:P.underlying t=some .string)(hx:qg K (.str s) x):Ran P G w0 ro0 K w (Instr.range t x) (.iter U.H.length) (U.push (.siter s 0)):=by
 simp only[qg]at hx;subst hx;refine⟨.pointer (some ⟨w.heap.size,0,none⟩),w.alloc (.stringIter ⟨s.toArray⟩ 0),K.addM U.H.length w.heap.size (jI _),?_,qCZ h _ _,h.push ?_,?_⟩
 . simp[Instr.range,run_underlying hu]
 . simp[jV]
 simp only[qg];exact⟨w.heap.size,by simp[Kn.addM],rfl⟩
def qfT(h:WRel G w0 ro0 K U w){t:Nat}{x:Value}{a:AV}{v:AV}{U':St}(hx:qg K a x)(hf:Vg U a=some (v,U')):Ran P G w0 ro0 K w (Instr.next x true t) v U':=by
 unfold Vg at hf;split at hf
 . rename_i b;split at hf
   . rename_i s pos hb;simp only[qg]at hx;obtain⟨B,hm,rfl⟩:=hx;obtain⟨B',h1,hB0,hBl,h4,_⟩:=h.blk b _ hb;rw[hm]at h1;cases h1;simp only[jV]at h4;have hbl:b<U.H.length:=(qyF.1 hb).1;split at hf
     . rename_i hp;simp only[qyU,qyW]at hf;obtain⟨rfl,rfl⟩:=hf;have hp':pos<(ByteArray.mk s.toArray).size:=(by simpa[ByteArray.size] using hp);refine⟨.tuple #[.bool true,.int .i64 pos,.int .i32 (Utf8.decode ⟨s.toArray⟩ pos).1],{w with heap:=w.heap.setIfInBounds B (.stringIter ⟨s.toArray⟩ (pos+(Utf8.decode ⟨s.toArray⟩ pos).2))},K,?_,qC3 K,?_,?_⟩
       . simp[Instr.next,getObj,setObj,Sem.run,h4,hp',goInt]
       . refine h.setBlk (B:=B) hbl hm rfl rfl rfl (by simp) (fun k hk=>by simp[qBc (Ne.symm hk)]) ?_ (by rw[hb];simp) (fun cs2 el2 fr2 e2=>by simp[hBl]at e2) (fun cs2 el2 fr2 e2=>by simp[hBl]at e2);simp[jV,hBl]
       simp[qg,qh]
     rename_i hp;simp only[qyU,qyW]at hf;obtain⟨rfl,rfl⟩:=hf;have hp':¬pos<(ByteArray.mk s.toArray).size:=(by simpa[ByteArray.size] using hp);refine⟨.tuple #[.bool false],w,K,?_,qC3 K,h,?_⟩
     . simp[Instr.next,getObj,Sem.run,h4,hp']
     simp[qg,qh]
   cases hf
 cases hf
def Did(P:Program)(G:Nat->AV)(w0:World)(ro0:Nat->Nat->Option Value)(K:Kn)(w:World)(s:Sem Next)(v:AV)(U':St):Prop :=
 ∃v' w' K',(s.run P w=.ok (.value v') w'\/(s.run P w=.ok .skip w'/\v'=undef))/\K.le K'/\WRel G w0 ro0 K' U' w'/\qg K' v v'
def Did.of_ran{s:Sem Value}{v U'}(h:Ran P G w0 ro0 K w s v U'):Did P G w0 ro0 K w (do pure (.value (<- s))) v U':=by
 obtain⟨v',w',K',h1,h2,h3,h4⟩:=h;exact⟨v',w',K',.inl (by simp[h1]),h2,h3,h4⟩
def qC7:=@Did.of_ran
def Did.of_same(h:WRel G w0 ro0 K U w){s:Sem Value}{v}(hr:∃v',s.run P w=.ok v' w/\qg K v v'):Did P G w0 ro0 K w (do pure (.value (<- s))) v U:=by
 obtain⟨v',h1,h2⟩:=hr;exact qC7 (qC6 h h1 h2)
def qC8:=@Did.of_same
def Did.of_unit{s:Sem Unit}{U'}(hr:∃w',s.run P w=.ok () w'/\WRel G w0 ro0 K U' w'):Did P G w0 ro0 K w (do s;pure .skip) (.tup []) U':=by
 obtain⟨w',h1,h2⟩:=hr;exact⟨undef,w',K,.inr ⟨by simp[h1],rfl⟩,qC3 K,h2,by simp only[qg];exact⟨#[],rfl,by simp[qh]⟩⟩
def qa1(hw:WRel G w0 ro0 K U w)(he:ERel K N env a)(ps:Array (Nat×Operand)):
 (ps.map fun(i,x)=>(i,a.eval x)).toList.map (·.1)=(ps.toList.map fun p=>(p.1,ev G env p.2)).map (·.1) /\
   qh K ((ps.toList.map fun p=>(p.1,ev G env p.2)).map (·.2)) ((ps.map fun(i,x)=>(i,a.eval x)).toList.map (·.2)):=by
 constructor
 . simp
 have:=vY hw he (ps.toList.map (·.2));simpa[V8,Function.comp_def] using this
def Yf(hw:WRel G w0 ro0 K U w)(he:ERel K N env a)(o){v U'}(h:sem (Dof P) G env U o.op=some (v,U')):
 Did P G w0 ro0 K w (execOp a.eval o) v U':=by
 have ex:=Zf hw he;obtain⟨dst,op,type,pos,after,guard⟩:=o;simp only at h;cases op<;>simp only[sem]at h
 case move x=>
  simp only[qyU,qyW]at h;obtain⟨rfl,rfl⟩:=h;exact⟨a.eval x,w,K,.inl rfl,qC3 K,hw,ex x⟩
 case assign x=>
  simp only[qyU,qyW]at h;obtain⟨rfl,rfl⟩:=h;exact⟨a.eval x,w,K,.inl rfl,qC3 K,hw,ex x⟩
 case pick c x y=>
  split at h
  . rename_i b hb;simp only[qyU,qyW]at h;obtain⟨rfl,rfl⟩:=h;have hc:=ex c;rw[hb]at hc;simp only[qg]at hc;refine⟨if b then a.eval x else a.eval y,w,K,.inl ?_,qC3 K,hw,?_⟩
    . simp[execOp,hc,asBool]
    cases b
    . exact ex y
    exact ex x
  cases h
 case alloc e=>
  split at h
  . rename_i i hi;split at h
    . rename_i hz;simp only[qyU,qyW]at h;obtain⟨rfl,rfl⟩:=h;exact qC7 (qdn hw hi hz)
    cases h
  cases h
 case box e x=>
  obtain⟨c,hc,he'⟩:=qyM.1 h;simp only[qyW]at he';obtain⟨rfl,rfl⟩:=he';exact qC7 (qjC hw (ex x) hc)
 case build t ps=>
  obtain⟨u,hu,he'⟩:=qyM.1 h;simp only[qyW]at he';obtain⟨rfl,rfl⟩:=he';obtain⟨p1,p2⟩:=qa1 hw he ps;exact qC7 (qdi hw p1 p2 hu)
 case buildSlice t n ps=>
  obtain⟨u,hu,he'⟩:=qyM.1 h;simp only[qyW]at he';obtain⟨rfl,rfl⟩:=he';obtain⟨p1,p2⟩:=qa1 hw he ps;exact qC7 (JD hw p1 p2 hu)
 case load t x=>
  obtain⟨u,hu,he'⟩:=qyM.1 h;simp only[qyW]at he';obtain⟨rfl,rfl⟩:=he';exact qC7 (qf1 hw (ex x) hu)
 case store t x y=>
  obtain⟨u,hu,he'⟩:=qyM.1 h;simp only[qyW]at he';obtain⟨rfl,rfl⟩:=he';exact Did.of_unit (Qu hw (ex x) (ex y) hu)
 case nilCheck x=>
  have hx:=ex x;split at h
  . rename_i b o hb;simp only[qyU,qyW]at h;obtain⟨rfl,rfl⟩:=h;rw[hb]at hx;have hx':=hx;simp only[qg]at hx;obtain⟨B,_,e⟩:=hx;exact⟨a.eval x,w,K,.inl (by simp[execOp,e]),qC3 K,hw,hx'⟩
  . rename_i c hb;simp only[qyU,qyW]at h;obtain⟨rfl,rfl⟩:=h;rw[hb]at hx;have hx':=hx;simp only[qg]at hx;obtain⟨B,off,e,_⟩:=hx;exact⟨a.eval x,w,K,.inl (by simp[execOp,e]),qC3 K,hw,hx'⟩
  cases h
 case binOp op t x y u=>
  obtain⟨u,hu,he'⟩:=qyM.1 h;simp only[qyW]at he';obtain⟨rfl,rfl⟩:=he';exact qC8 hw (qjI (ex x) (ex y) hu x y)
 case unOp op t x=>
  obtain⟨u,hu,he'⟩:=qyM.1 h;simp only[qyW]at he';obtain⟨rfl,rfl⟩:=he';exact qC8 hw (qkF (ex x) hu)
 case convert s d x=>
  obtain⟨u,hu,he'⟩:=qyM.1 h;simp only[qyW]at he';obtain⟨rfl,rfl⟩:=he';exact qC8 hw (qgl hw (ex x) hu)
 case makeFunc fn x y=>
  cases fn<;>simp only at h<;>try(cases h;done)
  rename_i f;simp only[qyU,qyW]at h;obtain⟨rfl,rfl⟩:=h;refine⟨.func (.func f) (x.map a.eval) (y.map a.eval),w,K,.inl (by simp[execOp,Instr.makeFunc]),qC3 K,hw,?_⟩;simp only[qg];exact⟨_,_,rfl,by simpa using vY hw he x.toList,by simpa using vY hw he y.toList⟩
 case makeMap t r=>
  cases r with
  | none=>
   simp only[qyU,qyW]at h;obtain⟨rfl,rfl⟩:=h;exact qC7 (Vk hw t)
  |some r=>cases h
 case makeSlice t l c=>exact qC7 (vE hw (ex l) (ex c) h)
 case slice t x lo hi mx=>
  obtain⟨hlo,hlo0⟩:=qcL hw he lo;obtain⟨hhi,hhi0⟩:=qcL hw he hi;obtain⟨hmx,hmx0⟩:=qcL hw he mx;have hx:=ex x;split at h
  . rename_i i hD;obtain⟨inf,d,z,hi,hu,_,rfl⟩:=qv hD;simp only at h;split at h
    . rename_i s hd hxs;have:=vu hd;subst this;obtain⟨u,hu',he'⟩:=qyM.1 h;simp only[qyW]at he';obtain⟨rfl,rfl⟩:=he';rw[hxs]at hx;simp only[qg]at hx;have:=qhu (P:=P) (K:=K) (w:=w) hu hlo hlo0 hhi hhi0 hmx0 hu';rw[<- hx]at this;exact qC8 hw this
    . rename_i e hd;have:=Qh hd;subst this;split at h
      . rename_i j sz rows tok hj hxs;obtain⟨inf2,d2,z2,hi2,hu2,_,rfl⟩:=qv hj;split at h
        . rename_i hsz;obtain⟨u,hu',he'⟩:=qyM.1 h;simp only[qyW]at he';obtain⟨rfl,rfl⟩:=he';rw[hxs]at hx;exact qC8 hw (qkQ hu hi2 hsz hx hlo hlo0 hhi hhi0 hmx hmx0 hu')
        cases h
      . rename_i j b off len sz hj hxs;obtain⟨inf2,d2,z2,hi2,hu2,_,rfl⟩:=qv hj;split at h
        . rename_i hsz;simp only at hsz;subst hsz;obtain⟨u,hu',he'⟩:=qyM.1 h;simp only[qyW]at he';obtain⟨rfl,rfl⟩:=he';rw[hxs]at hx;exact qC8 hw (qkR hu hi2 hx hlo hlo0 hhi hhi0 hmx0 hu')
        cases h
      cases h
    cases h
  cases h
 case fieldAddr s x f=>
  obtain⟨u,hu,he'⟩:=qyM.1 h;simp only[qyW]at he';obtain⟨rfl,rfl⟩:=he';exact qC8 hw (Y4 hw (ex x) hu)
 case field s x f=>
  obtain⟨u,hu,he'⟩:=qyM.1 h;simp only[qyW]at he';obtain⟨rfl,rfl⟩:=he';exact qC8 hw (qc6 (ex x) hu)
 case indexAddr t x i=>
  obtain⟨u,hu,he'⟩:=qyM.1 h;simp only[qyW]at he';obtain⟨rfl,rfl⟩:=he';exact qC8 hw (YT hw (ex x) (ex i) hu)
 case index t x i=>
  obtain⟨u,hu,he'⟩:=qyM.1 h;simp only[qyW]at he';obtain⟨rfl,rfl⟩:=he';exact qC8 hw (qcY (ex x) (ex i) hu)
 case lookup t x i ok=>
  obtain⟨u,hu,he'⟩:=qyM.1 h;simp only[qyW]at he';obtain⟨rfl,rfl⟩:=he';exact qC8 hw (qbf hw (ex x) (ex i) hu)
 case mapUpdate t m k x=>
  obtain⟨u,hu,he'⟩:=qyM.1 h;simp only[qyW]at he';obtain⟨rfl,rfl⟩:=he';exact Did.of_unit (YI hw (ex m) (ex k) (ex x) hu)
 case range t x=>
  have hx:=ex x;split at h
  . rename_i i s hD hxs;obtain⟨inf,d,z,hi,hu,_,rfl⟩:=qv hD;simp only at h;split at h
    . rename_i hd;have:=vu hd;subst this;simp only[qyU,qyW]at h;obtain⟨rfl,rfl⟩:=h;rw[hxs]at hx;exact qC7 (qcE hw hu hx)
    cases h
  cases h
 case next it b=>
  cases b with
  |false=>cases h
  | true=>
   simp only at h;exact qC7 (qfT hw (ex it) h)
 case extract x i=>
  obtain⟨u,hu,he'⟩:=qyM.1 h;simp only[qyW]at he';obtain⟨rfl,rfl⟩:=he';exact qC8 hw (Vy (ex x) hu)
 case call c=>
  obtain⟨callee,args,argTypes⟩:=c;cases callee<;>simp only at h<;>try(cases h;done)
  rename_i b;have ha:=vY hw he args.toList;unfold zB at h;split at h
  . rename_i t x hts hvs;obtain⟨u,hu,he'⟩:=qyM.1 h;simp only[qyW]at he';obtain⟨rfl,rfl⟩:=he';rw[hvs]at ha;simp only[qh]at ha;obtain⟨v1,vr,e1,h1,rfl⟩:=ha;have eargs:args.map a.eval = #[v1]:=(by apply Array.ext';simpa using e1);have ets:argTypes = #[t]:=(by apply Array.ext';simpa using hts);have:=qii hw h1 type hu;obtain⟨v',r1,r2⟩:=this;exact⟨v',w,K,.inl (by simp[execOp,resolve,invoke,builtin,eargs,ets,r1]),qC3 K,hw,r2⟩
  . rename_i t u x y hts hvs;split at h
    . rename_i hut;subst hut;rw[hvs]at ha;simp only[qh]at ha;obtain⟨v1,vr,e1,h1,v2,vr2,e2,h2,rfl⟩:=ha;have eargs:args.map a.eval = #[v1,v2]:=(by apply Array.ext';simpa[e2] using e1);have ets:argTypes = #[u,u]:=(by apply Array.ext';simpa using hts);obtain⟨v',w',K',r1,r2,r3,r4⟩:=qb1 hw h1 h2 type h;exact⟨v',w',K',.inl (by simp[execOp,resolve,invoke,builtin,eargs,ets,r1]),r2,r3,r4⟩
    cases h
  . rename_i x y hvs;obtain⟨u,hu,he'⟩:=qyM.1 h;simp only[qyW]at he';obtain⟨rfl,rfl⟩:=he';rw[hvs]at ha;simp only[qh]at ha;obtain⟨v1,vr,e1,h1,v2,vr2,e2,h2,rfl⟩:=ha;have eargs:args.map a.eval = #[v1,v2]:=(by apply Array.ext';simpa[e2] using e1);obtain⟨v',r1,r2⟩:=qh9 (P:=P) (w:=w) h1 h2 argTypes type hu;exact⟨v',w,K,.inl (by simp[execOp,resolve,invoke,builtin,eargs,r1]),qC3 K,hw,r2⟩
  . rename_i x y z hvs;obtain⟨u,hu,he'⟩:=qyM.1 h;simp only[qyW]at he';obtain⟨rfl,rfl⟩:=he';rw[hvs]at ha;simp only[qh]at ha;obtain⟨v1,vr,e1,h1,v2,vr2,e2,h2,v3,vr3,e3,h3,rfl⟩:=ha;have eargs:args.map a.eval = #[v1,v2,v3]:=(by apply Array.ext';simpa[e2,e3] using e1);obtain⟨v',r1,r2⟩:=qfX (P:=P) (w:=w) h1 h2 h3 argTypes type hu;exact⟨v',w,K,.inl (by simp[execOp,resolve,invoke,builtin,eargs,r1]),qC3 K,hw,r2⟩
  . rename_i x y hvs;obtain⟨u,hu,he'⟩:=qyM.1 h;simp only[qyW]at he';obtain⟨rfl,rfl⟩:=he';rw[hvs]at ha;simp only[qh]at ha;obtain⟨v1,vr,e1,h1,v2,vr2,e2,h2,rfl⟩:=ha;have eargs:args.map a.eval = #[v1,v2]:=(by apply Array.ext';simpa[e2] using e1);obtain⟨v',r1,r2⟩:=qic (P:=P) (w:=w) h1 h2 argTypes type hu;exact⟨v',w,K,.inl (by simp[execOp,resolve,invoke,builtin,eargs,r1]),qC3 K,hw,r2⟩
  cases h
 all_goals(first|(cases h;done)|(split at h<;>cases h))
end
mutual
def zb:AV->Bool
 |.ptr ..|.ms ..|.map _|.iter _|.any=>false
 |.rptr c=>qx c
 |.sl _ rows tok=>(match tok with|.chain .. =>false|_=>true)&&zk rows
 |.fn _ a b=>qx a&&qx b
 |.agg c=>qx c
 |.tup c=>qx c
 |_=>true
def qx:List AV->Bool
 |[]=>true
 |a::r=>zb a&&qx r
def zk:List (List AV)->Bool
 |[]=>true
 |a::r=>qx a&&zk r
end
def qba:∀l,qx l=l.all zb
 |[]=>rfl
 |a::r=>by simp[qx,qba r]
def Wm:∀l,zk l=l.all (·.all zb)
 |[]=>rfl
 |a::r=>by simp[zk,Wm r,qba]
mutual
def qg.toK0{K}:∀(a){v:Value},zb a=true->qg K a v->qg (K0 K.ro) a v
 |.any,_,h,_=>by simp[zb]at h
 |.bool b,_,_,x=>by simpa[qg] using x
 |.int k n,_,_,x=>by simpa[qg] using x
 |.str s,_,_,x=>by simpa[qg] using x
 |.nilp,_,_,x=>by simpa[qg] using x
 |.ptr b off,_,h,x=>by simp[zb]at h
 | .rptr c,_,h,x=>by
  simp only[qg,zb]at h x⊢;obtain⟨B,off,h1,h2⟩:=x;exact⟨B,off,h1,qm.toK0 c B off h h2⟩
 | .sl sz rows tok,_,h,x=>by
  simp only[qg,zb,qyJ]at h x⊢;rcases x with x|⟨B,off,cap,h1,h2,h3,h4⟩
  . exact .inl x
  refine .inr ⟨B,off,cap,h1,h2,qI.toK0 rows B off sz h.2 h3,?_⟩;cases tok<;>simp_all[ky]
 |.ms b off len sz,_,h,x=>by simp[zb]at h
 |.nilm,_,_,x=>by simpa[qg] using x
 |.map b,_,h,x=>by simp[zb]at h
 |.iter b,_,h,x=>by simp[zb]at h
 | .fn f a b,_,h,x=>by
  simp only[qg,zb,qyJ]at h x⊢;obtain⟨va,vb,h1,h2,h3⟩:=x;exact⟨va,vb,h1,qh.toK0 a h.1 h2,qh.toK0 b h.2 h3⟩
 |.nilf,_,_,x=>by simpa[qg] using x
 | .agg c,_,h,x=>by
  simp only[qg,zb]at h x⊢;obtain⟨vs,h1,h2⟩:=x;exact⟨vs,h1,qh.toK0 c h h2⟩
 | .tup c,_,h,x=>by
  simp only[qg,zb]at h x⊢;obtain⟨vs,h1,h2⟩:=x;exact⟨vs,h1,qh.toK0 c h h2⟩
def qh.toK0{K}:∀(l){vs:List Value},qx l=true->qh K l vs->qh (K0 K.ro) l vs
 |[],_,_,x=>by simpa[qh] using x
 | a::r,_,h,x=>by
  simp only[qh,qx,qyJ]at h x⊢;obtain⟨v,vr,h1,h2,h3⟩:=x;exact⟨v,vr,h1,qg.toK0 a h.1 h2,qh.toK0 r h.2 h3⟩
def qm.toK0{K}:∀(l) (B off),qx l=true->qm K B off l->qm (K0 K.ro) B off l
 |[],_,_,_,_=>by simp[qm]
 | a::r,B,off,h,x=>by
  simp only[qm,qx,qyJ]at h x⊢;obtain⟨⟨v,h1,h2⟩,h3⟩:=x;exact⟨⟨v,h1,qg.toK0 a h.1 h2⟩,qm.toK0 r _ _ h.2 h3⟩
def qI.toK0{K}:∀(l) (B off sz),zk l=true->qI K B off sz l->qI (K0 K.ro) B off sz l
 |[],_,_,_,_,_=>by simp[qI]
 | a::r,B,off,sz,h,x=>by
  simp only[qI,zk,qyJ]at h x⊢;obtain⟨⟨h1,h0,h2⟩,h3⟩:=x;exact⟨⟨h1,h0,qm.toK0 a _ _ h.1 h2⟩,qI.toK0 r _ _ _ h.2 h3⟩
end
def pl1:AV->AV
 |.sl sz rows (.chain _ _)=>.sl sz rows .none
 |v=>v
def pl2:AV->AV
 |.agg c=>.agg (c.map pl1)
 |v=>pl1 v
def plain:AV->AV
 |.tup c=>.tup (c.map pl2)
 |v=>pl2 v
def vg(sz:Nat):Nat->List AV->List (List AV)
 |0,_=>[]
 |n+1,c=>c.take sz::vg sz n (c.drop sz)
def kZ(H:List Blk):AV->AV
 | .ms b off len sz=>match H[b]? with
  |some (.cells c)=>if off+len*sz<=c.length then .sl sz (vg sz len (c.drop off)) .none else .any
  |_=>.any
 |v=>pl1 v
def Zs(H:List Blk):AV->AV
 |.agg c=>.agg (c.map (kZ H))
 |v=>kZ H v
def fin(H:List Blk):AV->AV
 |.tup c=>.tup (c.map (Zs H))
 |v=>Zs H v
def qcI{K v}:∀{a:AV},qg K a v->qg K (pl1 a) v:=by
 intro a h;unfold pl1;split
 . rename_i sz rows t k;simp only[qg]at h⊢;rcases h with⟨_,_,h⟩|⟨B,off,cap,h1,h2,h3,_⟩
   . exact h.elim
   exact .inr ⟨B,off,cap,h1,h2,h3,trivial⟩
 exact h
def qh.mapRel{K K' f}(hf:∀a v,qg K a v->qg K' (f a) v):∀(l){vs:List Value},qh K l vs->qh K' (l.map f) vs
 |[],_,h=>by simpa[qh] using h
 | a::r,_,h=>by
  simp only[qh,qyR]at h⊢;obtain⟨v,vr,h1,h2,h3⟩:=h;exact⟨v,vr,h1,hf a v h2,qh.mapRel hf r h3⟩
def qCF:=@qh.mapRel
def qhQ{K v}:∀{a:AV},qg K a v->qg K (pl2 a) v:=by
 intro a h;unfold pl2;split
 . simp only[qg]at h⊢;obtain⟨vs,h1,h2⟩:=h;exact⟨vs,h1,qCF (fun _ _=>qcI) _ h2⟩
 exact qcI h
def qhN{K v}:∀{a:AV},qg K a v->qg K (plain a) v:=by
 intro a h;unfold plain;split
 . simp only[qg]at h⊢;obtain⟨vs,h1,h2⟩:=h;exact⟨vs,h1,qCF (fun _ _=>qhQ) _ h2⟩
 exact qhQ h
def ZV(sz):∀(n) (c),n*sz<=c.length->(vg sz n c).length=n/\∀(i) (r),(vg sz n c)[i]?=some r->r=(c.drop (i*sz)).take sz/\i<n
 |0,c,_=>⟨rfl,by simp[vg]⟩
 | n+1,c,h=>by
  rw[qzr]at h;obtain⟨h1,h2⟩:=ZV sz n (c.drop sz) (by simp;omega);refine⟨by simp[vg,h1],fun i r e=>?_⟩
  cases i with
  |zero=>simp[vg]at e;subst e;simp
  | succ i=>
   simp only[vg,qBd]at e;obtain⟨h3,h4⟩:=h2 i r e;refine⟨?_,by omega⟩;rw[h3,List.drop_drop,qzr,qBo,qAt sz]
section
variable {P:Program}{G:Nat->AV}{w0:World}{ro0:Nat->Nat->Option Value}{K:Kn}{U:St}{w w':World}
open Classical in
noncomputable def vA(w0 w:World)(ro:Nat->Nat->Option Value):Nat->Nat->Option Value :=
 fun b o=>match ro b o with
  |some v=>some v
  |none=>if w0.heap.size<=b then w.cell? ⟨b,o,none⟩ else none
def JJ(w0 w ro b o v)(h:ro b o=some v):vA w0 w ro b o=some v:=by simp[vA,h]
def Kn.le_end(K:Kn)(w0 w):K.le {K with ro:=vA w0 w K.ro} :=
 ⟨fun b o v e=>JJ w0 w K.ro b o v e,fun _ _ e=>e,qyQ _,fun t C _ e=>⟨C,e,.inl rfl⟩,fun _ _ _=>rfl,fun _ _ e=>e,fun _ _ e=>e⟩
def WRel.end_ro(h:WRel G w0 ro0 K U w):(∀b o v,vA w0 w K.ro b o=some v->w.cell? ⟨b,o,none⟩=some v)/\(∀b o v,vA w0 w K.ro b o=some v->b<w0.heap.size->ro0 b o=some v):=by
 constructor
 . intro b o v e;simp only[vA]at e;split at e
   . rename_i u hu;cases e;exact h.ro _ _ _ hu
   split at e
   . exact e
   cases e
 intro b o v e hb;simp only[vA]at e;split at e
 . rename_i u hu;cases e;exact h.new _ _ _ hu hb
 rw[if_neg (by omega)]at e;cases e
def qeK(h:WRel G w0 ro0 K U w){a v}(ha:qg K a v):qg {K with ro:=vA w0 w K.ro} (kZ U.H a) v:=by
 have hle:=Kn.le_end K w0 w;unfold kZ;split
 . rename_i b off len sz;split
   . rename_i c hb;split
     . rename_i hl;simp only[qg]at ha⊢;obtain⟨B,cap,hm,rfl,h1,h2⟩:=ha;obtain⟨B',g1,g2,g3,⟨cs,el,g4,g5,g6,g7⟩,g8⟩:=h.blk b _ hb;rw[hm]at g1;cases g1;obtain⟨k1,k2⟩:=ZV sz len (c.drop off) (by simp;omega);refine .inr ⟨B,off,cap,by rw[k1],by rw[k1];exact h1,qDf B sz _ off fun i r e=>?_,trivial⟩;obtain⟨e1,e2⟩:=k2 i r e;have hmul:(i+1)*sz<=len*sz:=qzx _ (by omega);rw[qzr,qBo]at hmul;refine⟨by rw[e1];simp;omega,?_,qDe B r _ fun j x ex=>?_⟩
       . rw[qyP]at g5⊢;intro x hx;rw[e1]at hx;exact g5 x (qAj (qAj (qzy hx)))
       rw[e1,qzD]at ex;split at ex
       . rw[qzG,qzG]at ex;obtain⟨u,u1,u2⟩:=g7 _ _ ex;refine⟨u,?_,u2.mono hle⟩;simp only[vA,g8];rw[if_pos g2];simp only[World.cell?,g4];simpa[qAR] using u1
       cases ex
     simp[qg]
   simp[qg]
 exact(qcI ha).mono hle
def qeJ(h:WRel G w0 ro0 K U w){a v}(ha:qg K a v):qg {K with ro:=vA w0 w K.ro} (Zs U.H a) v:=by
 unfold Zs;split
 . simp only[qg]at ha⊢;obtain⟨vs,h1,h2⟩:=ha;exact⟨vs,h1,qCF (fun _ _=>qeK h) _ h2⟩
 exact qeK h ha
def qqh(h:WRel G w0 ro0 K U w){a v}(ha:qg K a v):qg {K with ro:=vA w0 w K.ro} (fin U.H a) v:=by
 unfold fin;split
 . simp only[qg]at ha⊢;obtain⟨vs,h1,h2⟩:=ha;exact⟨vs,h1,qCF (fun _ _=>qeJ h) _ h2⟩
 exact qeJ h ha
end
def bodied (P:Program) (g:FuncId):Bool:=P.funcs[g]?.any (fun fn=>fn.body.isSome && fn.name != "runtime.NumGoroutine")
def Pure(P:Program)(G:Nat->AV)(f:FuncId)(args:List AV)(r:AV):Prop :=
 bodied P f=true/\∀(w0) (ro) (vs),(∀g,qg (K0 ro) (G g) (.pointer (some ⟨g,0,none⟩)))->(∀b o v,ro b o=some v->w0.cell? ⟨b,o,none⟩=some v)->qh (K0 ro) args vs.toList ->
  Calls P f vs w0 fun e w'=>∃v ro',e=.returned v/\Below w0.heap.size w0 w'/\(∀b o v,ro b o=some v->ro' b o=some v)/\(∀b o v,ro' b o=some v->w'.cell? ⟨b,o,none⟩=some v) /\
   (∀b o v,ro' b o=some v->b<w0.heap.size->ro b o=some v)/\qg (K0 ro') r v
def que(D:Nat):Deferred:={target:=.collected D,args:=#[]}
def Dfr(K:Kn)(ds:List Deferred)(K':Kn)(ds':List Deferred):Prop :=
 ∃Ds:List Nat,Ds.Nodup/\ds'=Ds.map que++ds/\∀D∈Ds,K.fx D=none/\K'.fx D=some (.deferred (some []))
def Dfr.same{K K'}{ds ds':List Deferred}(h:ds'=ds):Dfr K ds K' ds':=⟨[],List.nodup_nil,by simp[h],by simp⟩
def Dfr.trans{K K1 K2}{ds ds1 ds2:List Deferred}(h1:K.le K1)(h2:K1.le K2)(a:Dfr K ds K1 ds1)(b:Dfr K1 ds1 K2 ds2):Dfr K ds K2 ds2:=by
 obtain⟨D1,n1,e1,f1⟩:=a;obtain⟨D2,n2,e2,f2⟩:=b;refine⟨D2++D1,?_,by rw[e2,e1];simp,fun D hD=>?_⟩
 . refine qz3.2 ⟨n2,n1,fun x hx y hy e=>?_⟩;subst e;have:=(f2 x hx).1;rw[(f1 x hy).2]at this;cases this
 rcases qy0.1 hD with hD|hD
 . obtain⟨g1,g2⟩:=f2 D hD;refine⟨?_,g2⟩
   cases e:K.fx D with
   |none=>rfl
   |some o=>rw[h1.fx D o e]at g1;cases g1
 obtain⟨g1,g2⟩:=f1 D hD;exact⟨g1,h2.fx _ _ g2⟩
structure Glo where
 g:Nat->AV
 X:List PanicEntry->St->Prop
instance:Coe Glo (Nat->AV):=⟨Glo.g⟩
def Glo.NoX(G:Glo):Prop:=∀c U,¬G.X c U
abbrev Jx(g:Nat->AV):Glo:=⟨g,fun _ _=>False⟩
instance:Coe (Nat->AV) Glo:=⟨Jx⟩
def qaU(g):(Jx g).NoX:=fun _ _ h=>h
@[simp]def qvF(g):(Jx g).g=g:=rfl
def Out(G:Glo)(w0:World)(ro0:Nat->Nat->Option Value)(K:Kn)(ds:List Deferred)(e:Exit)(a:Act)(w:World):Prop :=
 ∃c K' U,e=.panic c/\K.le K'/\WRel G w0 ro0 K' U w/\Dfr K ds K' a.defers/\G.X c U
def Z8(G:Glo)(w0:World)(ro0:Nat->Nat->Option Value)(K:Kn)(N:Nat)(ds:List Deferred)(Q:Exit->Env->St->Prop):Exit->Act->World->Prop :=
 fun e a w=>(∃K' env U,K.le K'/\WRel G w0 ro0 K' U w/\ERel K' N env a/\Dfr K ds K' a.defers/\Q e env U)\/Out G w0 ro0 K ds e a w
def AWp(P:Program)(G:Glo)(N:Nat)(c:Code)(env:Env)(U:St)(Q:Exit->Env->St->Prop):Prop :=
 ∀(w0) (ro0) (K) (a) (w),WRel G w0 ro0 K U w->ERel K N env a->c.wp P (Z8 G w0 ro0 K N a.defers Q) a w
def qf(P:Program)(G:Glo)(f:FuncId)(args:List AV)(U:St)(Q:AV->St->Prop):Prop :=
 bodied P f=true/\∀(w0) (ro0) (K) (w) (vs),WRel G w0 ro0 K U w->qh K args vs.toList ->
  Calls P f vs w fun e w'=>(∃v' v U' K',e=.returned v'/\K.le K'/\WRel G w0 ro0 K' U' w'/\qg K' v v'/\Q v U')\/∃c U' K',e=.panicked c/\K.le K'/\WRel G w0 ro0 K' U' w'/\G.X c U'
section
variable {P:Program}{G:Glo}{N:Nat}{env:Env}{U:St}{Q:Exit->Env->St->Prop}
def Z8.mono{w0 ro0 K}{ds:List Deferred}{Q' e a w}(h:Z8 G w0 ro0 K N ds Q e a w)(hq:∀e env U,Q e env U->Q' e env U):Z8 G w0 ro0 K N ds Q' e a w:=by
 rcases h with⟨K',env',U',h1,h2,h3,hd,h4⟩|h
 . exact .inl ⟨K',env',U',h1,h2,h3,hd,hq _ _ _ h4⟩
 exact .inr h
def AWp.mono{c Q'}(h:AWp P G N c env U Q)(hq:∀e env U,Q e env U->Q' e env U):AWp P G N c env U Q' :=
 fun w0 ro0 K a w hw he=>wp_mono (h w0 ro0 K a w hw he) fun e a w x=>x.mono hq
def AWp.skip(h:Q .normal env U):AWp P G N .skip env U Q:=fun w0 ro0 K a w hw he=>wp_skip (.inl ⟨K,env,U,qC3 K,hw,he,.same rfl,h⟩)
def AWp.ret(h:Q .ret env U):AWp P G N .ret env U Q:=fun w0 ro0 K a w hw he=>wp_ret (.inl ⟨K,env,U,qC3 K,hw,he,.same rfl,h⟩)
def AWp.exit{id}(h:Q (.exit id) env U):AWp P G N (.exit id) env U Q:=fun w0 ro0 K a w hw he=>wp_exit (.inl ⟨K,env,U,qC3 K,hw,he,.same rfl,h⟩)
def wE(next:Env->St->Prop)(Q:Exit->Env->St->Prop):Exit->Env->St->Prop
 |.normal,env,U=>next env U
 |e,env,U=>Q e env U
def Z8.after{w0 ro0 K K'}(hle:K.le K'){ds ds':List Deferred}(hd:Dfr K ds K' ds'){e a w}(h:Z8 G w0 ro0 K' N ds' Q e a w):Z8 G w0 ro0 K N ds Q e a w:=by
 rcases h with⟨K1,env',U',h1,h2,h3,hd',h4⟩|⟨c,K1,U',e,h1,h2,hd',h4⟩
 . exact .inl ⟨K1,env',U',qC4 hle h1,h2,h3,hd.trans hle h1 hd',h4⟩
 exact .inr ⟨c,K1,U',e,qC4 hle h1,h2,hd.trans hle h1 hd',h4⟩
def AWp.seq{x y}(h:AWp P G N x env U (wE (fun env U=>AWp P G N y env U Q) Q)):AWp P G N (.seq x y) env U Q:=by
 intro w0 ro0 K a w hw he;refine wp_seq (wp_mono (h w0 ro0 K a w hw he) ?_);intro e a' w' hp;rcases hp with⟨K',env',U',h1,h2,h3,hd,h4⟩|⟨c,K',U',rfl,hp⟩
 case inr=>exact .inr ⟨c,K',U',rfl,hp⟩
 cases e with
 |normal=>exact wp_mono (h4 w0 ro0 K' a' w' h2 h3) fun e a w x=>x.after h1 hd
 |exit id=>exact .inl ⟨K',env',U',h1,h2,h3,hd,h4⟩
 |goto l=>exact .inl ⟨K',env',U',h1,h2,h3,hd,h4⟩
 |ret=>exact .inl ⟨K',env',U',h1,h2,h3,hd,h4⟩
 |panic c=>exact .inl ⟨K',env',U',h1,h2,h3,hd,h4⟩
 |outgrown=>exact .inl ⟨K',env',U',h1,h2,h3,hd,h4⟩
def AWp.cond{c x y b}(hc:ev G env c=.bool b)(ht:b=true->AWp P G N x env U Q)(hf:b=false->AWp P G N y env U Q):AWp P G N (.cond c x y) env U Q:=by
 intro w0 ro0 K a w hw he;have:=Zf hw he c;rw[hc]at this;simp only[qg]at this;exact wp_cond_split this (fun e=>ht e w0 ro0 K a w hw he) (fun e=>hf e w0 ro0 K a w hw he)
def wF(id:Nat)(Q:Exit->Env->St->Prop):Exit->Env->St->Prop
 |.exit id',env,U=>if id'=id then Q .normal env U else Q (.exit id') env U
 |e,env,U=>Q e env U
def AWp.block{id c}(h:AWp P G N c env U (wF id Q)):AWp P G N (.block id c) env U Q:=by
 intro w0 ro0 K a w hw he;refine wp_block (wp_mono (h w0 ro0 K a w hw he) ?_);intro e a' w' hp;rcases hp with⟨K',env',U',h1,h2,h3,hd,h4⟩|⟨c,K',U',rfl,hp⟩
 case inr=>exact .inr ⟨c,K',U',rfl,hp⟩
 cases e with
 | exit id'=>
  simp only[wF]at h4;simp only[Exit.inBlock];split
  . rename_i e;rw[if_pos e]at h4;exact .inl ⟨K',env',U',h1,h2,h3,hd,h4⟩
  rename_i e;rw[if_neg e]at h4;exact .inl ⟨K',env',U',h1,h2,h3,hd,h4⟩
 |normal=>exact .inl ⟨K',env',U',h1,h2,h3,hd,h4⟩
 |goto l=>exact .inl ⟨K',env',U',h1,h2,h3,hd,h4⟩
 |ret=>exact .inl ⟨K',env',U',h1,h2,h3,hd,h4⟩
 |panic c=>exact .inl ⟨K',env',U',h1,h2,h3,hd,h4⟩
 |outgrown=>exact .inl ⟨K',env',U',h1,h2,h3,hd,h4⟩
def AWp.loop{c}(I:Nat->Env->St->Prop)(n₀)(h₀:I n₀ env U)
 (round:∀n env U,I n env U->AWp P G N c env U (wE (fun env' U'=>∃n',n'<n/\I n' env' U') Q)):AWp P G N (.loop c) env U Q:=by
 intro w0 ro0 K a w hw he;refine wp_loop_ghost (fun n X w=>∃K' env' U',K.le K'/\WRel G w0 ro0 K' U' w/\ERel K' N env' X/\Dfr K a.defers K' X.defers/\I n env' U') n₀ ⟨K,env,U,qC3 K,hw,he,.same rfl,h₀⟩ ?_;intro n a' w' hI;obtain⟨K',env',U',h1,h2,h3,hd,h4⟩:=hI;refine wp_mono (round n env' U' h4 w0 ro0 K' a' w' h2 h3) ?_;intro e a2 w2 hp;rcases hp with⟨K2,env2,U2,g1,g2,g3,gd,g4⟩|⟨c,K2,U2,rfl,g1,g2,gd,g4⟩
 case inr=>exact .inr ⟨c,K2,U2,rfl,qC4 h1 g1,g2,hd.trans h1 g1 gd,g4⟩
 have gd:=hd.trans h1 g1 gd
 cases e with
 | normal=>
  obtain⟨n',hn,hi⟩:=g4;exact⟨n',hn,K2,env2,U2,qC4 h1 g1,g2,g3,gd,hi⟩
 |exit id=>exact .inl ⟨K2,env2,U2,qC4 h1 g1,g2,g3,gd,g4⟩
 |goto l=>exact .inl ⟨K2,env2,U2,qC4 h1 g1,g2,g3,gd,g4⟩
 |ret=>exact .inl ⟨K2,env2,U2,qC4 h1 g1,g2,g3,gd,g4⟩
 |panic c=>exact .inl ⟨K2,env2,U2,qC4 h1 g1,g2,g3,gd,g4⟩
 |outgrown=>exact .inl ⟨K2,env2,U2,qC4 h1 g1,g2,g3,gd,g4⟩
end
def qf.glo{P g}{X:List PanicEntry->St->Prop}{f args U Q}(h:qf P (Jx g) f args U Q):qf P ⟨g,X⟩ f args U Q :=
 ⟨h.1,fun w0 ro0 K w vs hw hvs=>(h.2 w0 ro0 K w vs hw hvs).mono fun e w' h=>h.imp id fun⟨_,_,_,_,_,_,h⟩=>h.elim⟩
