/- A part of the proof. -/
import Derived.Test.YtkpkjbchlabaaaaGreatDoorSa01
import Derived.Laws.StructEq
import Derived.ChangeKeysEq
import Derived.Laws.AppendOwn
set_option linter.unusedVariables false
set_option linter.unusedSimpArgs false
set_option linter.defProp false
section
namespace Go.Abs
open Go Go.RowKit
section
theorem yo (a:List UInt8):(⟨a.toArray⟩:ByteArray).toList=a:=by rw[ByteArray.toList_eq]
theorem QH (a:List UInt8):(⟨a.toArray⟩:ByteArray).size=a.length:=by simp[ByteArray.size]
theorem qfk (a b:List UInt8):(⟨a.toArray⟩:ByteArray)++⟨b.toArray⟩=⟨(a++b).toArray⟩:=by
 apply ByteArray.ext;simp
theorem qcn (a:List UInt8)(l h:Nat):(⟨a.toArray⟩:ByteArray).extract l h=⟨((a.take h).drop l).toArray⟩:=by
 apply ByteArray.ext;rw[ByteArray.data_extract];simp[qto,List.drop_take]
section
variable {P:Program}{G:Nat->AV}{w0:World}{ro0:Nat->Nat->Option Value}{K:Kn}{U:St}{w w':World}
theorem qbH {t:Nat}(h:P.cellsOf t≠0):∃ inf,P.info? t=some inf/\inf.size≠0:=by
 simp only[Program.cellsOf]at h
 cases hi:P.info? t with
 | none=>simp[hi]at h
 | some inf=>exact⟨inf,rfl,by simpa[hi] using h⟩
theorem Y0 (h:WRel G w0 ro0 K U w){s f:Nat}{x v:AV}{x':Value}(hx:qg K x x')(hf:vY (Dof P) s x f=some v) :
 ∃ v',(Instr.fieldAt s x' f).run P w=.ok v' w/\qg K v v':=by
 unfold vY at hf;split at hf
 . rename_i i hD;obtain⟨inf,d,z,hi,hu,hzero,rfl⟩:=qs hD;simp only at hf;split at hf
   . rename_i fs hd;obtain⟨fields,rfl,rfl,hnz,_⟩:=qj4 hd;split at hf
     . rename_i off ty hfo;simp only[qqB,qqj]at hfo;obtain⟨fl,hfl,he⟩:=hfo;simp only[Prod.mk.injEq]at he;obtain⟨rfl,rfl⟩:=he;have hfl':fields[f]?=some fl:=(by simpa using hfl);obtain⟨inf2,hi2,hsz2⟩:=qbH (hnz fl (qqd hfl));have hrun:∀ ad:Addr,(Instr.fieldAt s (.pointer (some ad)) f).run P w=.ok (.pointer (some (ad.add fl.offset))) w:=by
        intro ad;simp[Instr.fieldAt,run_underlying hu,hfl',Instr.sureAddr,fieldPlace,sizeOf,typeInfo,hi2,hsz2]
       split at hf
       . simp at hf;subst hf;simp only[qg]at hx;obtain⟨B,hm,rfl⟩:=hx;exact⟨_,hrun _,by rw[ja];exact⟨B,hm,rfl⟩⟩
       . simp at hf;subst hf;simp only[qg]at hx;obtain⟨B,o,rfl,hc⟩:=hx;exact⟨_,hrun _,by rw[ja];simp only[qg];exact⟨B,_,rfl,ql.drop B _ _ _ hc⟩⟩
       . cases hf
     . cases hf
   . cases hf
 . cases hf
theorem qh.sub {c:List AV}{vs:List Value}(h:qh K c vs)(off n:Nat):qh K ((c.drop off).take n) ((vs.drop off).take n):=by
 refine qh.intro (by simp[h.length]) fun i a e=>?_
 rw[qq2,qq1]at e;split at e
 . rename_i hi;obtain⟨v,e1,e2⟩:=h.get _ _ e;exact⟨v,by rw[qq2,if_pos hi,qq1];exact e1,e2⟩
 . cases e
theorem Wb {t:Nat}{inf:TypeInfo}{d:TypeDesc}(hi:P.info? t=some inf)(hu:P.underlying t=some d){c c':List AV}{vs:Array Value}(hc:qh K c vs.toList){off:Nat}
 (h1:cut c off (if (ve P d).agg=some true then inf.size else 1)=some c') {v:AV} (h2:QC (ve P d).agg c'=some v):∃ v',(part t vs off).run P w=.ok v' w/\qg K v v':=by
 obtain⟨g1,g2,g3⟩:=VB h1;have hd:ve P d≠.other:=by intro e;rw[e]at h2;simp[TD.agg,QC]at h2
 have ha:=qaB (w:=w) hu hd
 cases hg:(ve P d).agg with
 | none=>rw[hg]at h2;simp[QC]at h2
 | some g=>
  rw[hg]at h2 ha
  cases g with
  | true=>
   simp[QC]at h2;subst h2;rw[hg]at g2;simp only[if_true]at g2;refine⟨.agg (vs.extract off (off+inf.size)),?_,?_⟩
   . simp only[part,Sem.run_bind,ha,Result.andThen_ok];simp[sizeOf,typeInfo,hi]
   . simp only[qg];refine⟨_,rfl,?_⟩;rw[g2];have:=hc.sub off inf.size;simpa[qto] using this
  | false=>
   simp only[QC]at h2;rw[hg]at g2 g1;simp only[Option.some.injEq,qqy,if_false]at g2 g1;have hget:c[off]?=some v:=by
    rw[g2,List.head?_take]at h2;simp[List.head?_drop]at h2;exact h2
   obtain⟨v',e1,e2⟩:=hc.get off v hget;refine⟨v',?_,e2⟩;simp only[part,Sem.run_bind,ha,Result.andThen_ok];have:vs[off]?=some v':=by simpa using e1
   simp[this]
theorem qcW {s f:Nat}{x v:AV}{x':Value}(hx:qg K x x')(hf:qeF (Dof P) s x f=some v) :
 ∃ v',(Instr.field s x' f).run P w=.ok v' w/\qg K v v':=by
 unfold qeF at hf;split at hf
 . rename_i i c hD;obtain⟨inf,d,z,hi,hu,hzero,rfl⟩:=qs hD;simp only at hf;split at hf
   . rename_i fs hd;obtain⟨fields,rfl,rfl,hnz,_⟩:=qj4 hd;split at hf
     . rename_i off ty hfo;simp only[qqB,qqj]at hfo;obtain⟨fl,hfl,he⟩:=hfo;simp only[Prod.mk.injEq]at he;obtain⟨rfl,rfl⟩:=he;have hfl':fields[f]?=some fl:=(by simpa using hfl);split at hf
       . rename_i j hj;obtain⟨inf2,d2,z2,hi2,hu2,_,rfl⟩:=qs hj;obtain⟨c',hc',hv⟩:=qrw.1 hf;simp only[qg]at hx;obtain⟨vs,rfl,hvs⟩:=hx;obtain⟨v',e1,e2⟩:=Wb (w:=w) hi2 hu2 hvs hc' hv;refine⟨v',?_,e2⟩;simp[Instr.field,run_underlying hu,hfl',asAgg,e1]
       . cases hf
     . cases hf
   . cases hf
 . cases hf
theorem j5 {i:AV}{n:Int}(h:wX i=some n){i':Value}(hi:qg K i i'):∃ k,i'=.int k n:=by
 cases i<;>simp[wX]at h;subst h;exact⟨_,by simpa only[qg] using hi⟩
theorem YP (h:WRel G w0 ro0 K U w){t:Nat}{x i v:AV}{x' i':Value}(hx:qg K x x')(hi':qg K i i')(hf:zs (Dof P) t x i=some v) :
 ∃ v',(Instr.indexAt t x' i').run P w=.ok v' w/\qg K v v':=by
 unfold zs at hf;split at hf
 . rename_i ti n hD hn;obtain⟨inf,d,z,hi,hu,hzero,rfl⟩:=qs hD;obtain⟨k,rfl⟩:=j5 hn hi';simp only at hf;split at hf
   . rename_i e hd;have hd':=wZ hd;subst hd';split at hf
     . rename_i j hj;obtain⟨inf2,d2,z2,hi2,hu2,_,rfl⟩:=qs hj;split at hf
       . rename_i sz rows tok;split at hf
         . rename_i hc;obtain⟨h0,hsz⟩:=hc;simp only at hsz;obtain⟨r,hr,rfl⟩:=qqj.1 hf;have hlt:n.toNat<rows.length:=(qqc.1 hr).1;simp only[qg]at hx;rcases hx with ⟨_,rfl,_⟩|⟨B,off,cap,rfl,hcap,hrows,_⟩
           . simp at hlt
           . have hsz':sz=inf2.size:=by
              rcases hsz with hsz|rfl
              . exact hsz
              . simp at hlt
             subst hsz';obtain⟨_,_,hca⟩:=qJ.get B _ rows off hrows _ _ hr;refine⟨.pointer (some ⟨B,off+n.toNat*inf2.size,none⟩),?_,by simp only[qg];exact⟨B,_,rfl,hca⟩⟩;have hn2:n<(rows.length:Int):=(by omega);simp[Instr.indexAt,asIntOf,run_underlying hu,h0,hn2,sizeOf,typeInfo,hi2,ja]
         . cases hf
       . rename_i b off len sz;split at hf
         . rename_i hc;obtain⟨h0,hlt,hsz⟩:=hc;simp only at hsz;subst hsz;simp at hf;subst hf;simp only[qg]at hx;obtain⟨B,cap,hm,rfl,_⟩:=hx;refine⟨.pointer (some ⟨B,off+n.toNat*inf2.size,none⟩),?_,by simp only[qg];exact⟨B,hm,rfl⟩⟩;simp[Instr.indexAt,asIntOf,run_underlying hu,h0,hlt,sizeOf,typeInfo,hi2,ja]
         . cases hf
       . cases hf
     . cases hf
   . rename_i m e hd;have hd':=qam hd;subst hd';split at hf
     . rename_i j hj;obtain⟨inf2,d2,z2,hi2,hu2,_,rfl⟩:=qs hj;split at hf
       . rename_i hc;obtain⟨h0,hlt⟩:=hc;have hrun:∀ ad:Addr,(Instr.indexAt t (.pointer (some ad)) (.int k n)).run P w=.ok (.pointer (some (ad.add (n.toNat*inf2.size)))) w:=by
          intro ad;simp[Instr.indexAt,asIntOf,run_underlying hu,h0,hlt,sizeOf,typeInfo,hi2,Instr.sureAddr]
         split at hf
         . simp at hf;subst hf;simp only[qg]at hx;obtain⟨B,hm,rfl⟩:=hx;exact⟨_,hrun _,by rw[ja];exact⟨B,hm,rfl⟩⟩
         . simp at hf;subst hf;simp only[qg]at hx;obtain⟨B,o,rfl,hc⟩:=hx;exact⟨_,hrun _,by rw[ja];simp only[qg];exact⟨B,_,rfl,ql.drop B _ _ _ hc⟩⟩
         . cases hf
       . cases hf
     . cases hf
   . cases hf
 . cases hf
theorem qcN {t:Nat}{x i v:AV}{x' i':Value}(hx:qg K x x')(hi':qg K i i')(hf:qep (Dof P) t x i=some v) :
 ∃ v',(Instr.index t x' i').run P w=.ok v' w/\qg K v v':=by
 unfold qep at hf;split at hf
 . rename_i ti n hD hn;obtain⟨inf,d,z,hi,hu,hzero,rfl⟩:=qs hD;obtain⟨k,rfl⟩:=j5 hn hi';simp only at hf;split at hf
   . rename_i s hd;have hd':=vo hd;subst hd';split at hf
     . rename_i h0;obtain⟨b,hb,rfl⟩:=qqj.1 hf;simp only[qg]at hx;subst hx;refine⟨.int .u8 b.toNat,?_,by simp[qg]⟩;have:(⟨s.toArray⟩:ByteArray)[n.toNat]?=some b:=by
        have hlt:=(qqc.1 hb);obtain⟨h1,h2⟩:=hlt;rw[getElem?_pos _ _ (by rw[QH];exact h1)];congr 1
       simp[Instr.index,asIntOf,run_underlying hu,h0,this]
     . cases hf
   . rename_i m e c hd;have hd':=qam hd;subst hd';split at hf
     . rename_i j hj;obtain⟨inf2,d2,z2,hi2,hu2,_,rfl⟩:=qs hj;split at hf
       . rename_i hc;obtain⟨h0,hlt⟩:=hc;obtain⟨c',hc',hv⟩:=qrw.1 hf;simp only[qg]at hx;obtain⟨vs,rfl,hvs⟩:=hx;obtain⟨v',e1,e2⟩:=Wb (w:=w) hi2 hu2 hvs hc' hv;refine⟨v',?_,e2⟩;simp[Instr.index,asIntOf,run_underlying hu,h0,hlt,sizeOf,typeInfo,hi2,e1]
       . cases hf
     . cases hf
   . cases hf
 . cases hf
theorem Vs {x v:AV}{x':Value}(hx:qg K x x'){i:Nat}(hf:JL x i=some v):∃ v',(Instr.extract x' i).run P w=.ok v' w/\qg K v v':=by
 cases x<;>simp[JL]at hf;simp only[qg]at hx;obtain⟨vs,rfl,hvs⟩:=hx;obtain⟨v',e1,e2⟩:=hvs.get i v hf;have:vs[i]?=some v':=by simpa using e1
 exact⟨v',by simp[Instr.extract,this],e2⟩
theorem qj2 {op:UnOp}{x v:AV}{x':Value}(hx:qg K x x')(hf:unA op x=some v):∃ v',(Op.unary op x').run P w=.ok v' w/\qg K v v':=by
 unfold unA at hf;split at hf
 . simp only[qg]at hx;subst hx;simp at hf;subst hf;exact⟨_,by simp only[Op.unary,pure,Sem.run];rfl,by simp[qg]⟩
 . simp only[qg]at hx;subst hx;simp only[Option.some.injEq]at hf;subst hf;exact⟨_,by simp only[Op.unary,Op.intArith,pure,Sem.run];rfl,by simp[qg]⟩
 . simp only[qg]at hx;subst hx;simp at hf;subst hf;exact⟨_,by simp[Op.unary,Op.intBits];rfl,by simp[qg]⟩
 . cases hf
theorem qcM {op:BinOp}{k:IntKind}{a b:Int}{v:AV}(hf:zp op k a b=some v)(t:Nat)(hs:op≠.shl/\op≠.shr) :
 ∃ v',(binOp op t (.int k a) (.int k b)).run P w=.ok v' w/\qg K v v':=by
 obtain⟨hs1,hs2⟩:=hs;cases op<;>simp only[zp]at hf<;>first
  | exact absurd rfl hs1
  | exact absurd rfl hs2
  | skip
 all_goals first
  | (split at hf
     . cases hf
     . rename_i hb;simp at hf;subst hf;exact⟨_,by simp[binOp,Op.intDiv,hb];rfl,by simp[qg]⟩)
  | (simp at hf;subst hf;exact⟨_,by simp[binOp,Op.intArith,Op.intBits,Op.intCmp];rfl,by simp[qg]⟩)
  | (cases hf)
end
end
section
section
variable {P:Program}{G:Nat->AV}{w0:World}{ro0:Nat->Nat->Option Value}{K:Kn}{U:St}{w w':World}
theorem wC {t:Nat}(h:yM (Dof P) t=true):∃ inf,P.info? t=some inf/\(P.underlying t=some .bool\/P.underlying t=some .string\/∃ k,P.underlying t=some (.int k)):=by
 unfold yM at h;split at h
 . rename_i i hD;obtain⟨inf,d,z,hi,hu,_,rfl⟩:=qs hD;refine⟨inf,hi,?_⟩;simp only at h;split at h
   . rename_i k hd;exact .inr (.inr ⟨k,by rw[hu,ZZ hd]⟩)
   . rename_i hd;exact .inl (by rw[hu,WT hd])
   . rename_i hd;exact .inr (.inl (by rw[hu,vo hd]))
   . cases h
 . cases h
theorem Ja (d : Nat) (xs ys : Array Value) : ∀ (fs : List Field) (k : Nat) (as bs : List AV) (p : Bool), (∀ f ∈ fs, yM (Dof P) f.type = true ∧ f.name ≠ "_") →
 fs.map (·.offset)=List.range' k fs.length->as.length=fs.length->qh K as (xs.toList.drop k)->qh K bs (ys.toList.drop k)->zX as bs=some p ->
 (∀ (j:Nat) (f:Field) (a:AV),fs[j]?=some f->as[j]?=some a->(match P.underlying f.type,a with | some .bool,.bool _=>True | some .string,.str _=>True | some (.int _),.int .. =>True | _,_=>False)) ->
 (Op.eqFields (d+1) xs ys fs).run P w=.ok p w
 | [],k,as,bs,p,_,_,hl,h1,h2,he,_=>by
  have:as=[]:=qqv (by simpa using hl);subst this
  cases bs with
  | nil=>simp[zX]at he;subst he;simp[Op.eqFields]
  | cons=>simp[zX]at he
 | f::fs,k,as,bs,p,hf,ho,hl,h1,h2,he,ht=>by
  cases as with
  | nil=>simp at hl
  | cons a as=>
   cases bs with
   | nil=>simp[zX]at he
   | cons b bs=>
    simp only[qqp,qqs,qrt,List.cons.injEq]at ho;obtain⟨ho1,ho2⟩:=ho;simp only[qh]at h1 h2;obtain⟨va,ra,e1,g1,g2⟩:=h1;obtain⟨vb,rb,e2,g3,g4⟩:=h2;simp only[zX]at he;split at he
    . rename_i p1 q1 hp1 hq1;simp only[Option.some.injEq]at he;subst he;obtain⟨hpl,hnm⟩:=hf f (by simp);have htk:=ht 0 f a (by simp) (by simp);have hxa:xs[f.offset]?=some va:=by
       have:(xs.toList.drop k)[0]?=some va:=by rw[e1];rfl
       rw[ho1];simpa using this
      have hyb:ys[f.offset]?=some vb:=by
       have:(ys.toList.drop k)[0]?=some vb:=by rw[e2];rfl
       rw[ho1];simpa using this
      have hdx:ra=xs.toList.drop (k+1):=by
       have:=congrArg List.tail e1;simpa using this.symm
      have hdy:rb=ys.toList.drop (k+1):=by
       have:=congrArg List.tail e2;simpa using this.symm
      have ih:=Ja d xs ys fs (k+1) as bs q1 (fun x hx=>hf x (by simp[hx])) ho2 (by simpa using hl) (hdx▸g2) (hdy▸g4) hq1
       (fun j f' a' h1 h2=>ht (j+1) f' a' (by simpa using h1) (by simpa using h2))
      obtain⟨inf,hi,hu⟩:=wC hpl;have hagg:(isAgg f.type).run P w=.ok false w:=by
       rcases hu with hu|hu|⟨k,hu⟩<;>simp[isAgg,run_underlying hu]
      have heq:(Op.equalIn (d+1) f.type va vb).run P w=.ok p1 w:=by
       rcases hu with hu|hu|⟨k',hu⟩
       . rw[hu]at htk;cases a<;>simp at htk;cases b<;>simp[ka]at hp1;subst hp1;simp only[qg]at g1 g3;subst g1;subst g3;simp[Op.equalIn,run_underlying hu]
       . rw[hu]at htk;cases a<;>simp at htk;cases b<;>simp[ka]at hp1;subst hp1;simp only[qg]at g1 g3;subst g1;subst g3;rw[run_equalIn_string w d f.type _ _ hu,yo,yo]
       . rw[hu]at htk;cases a<;>simp at htk;cases b<;>simp only[ka]at hp1<;>try (cases hp1;done)
         split at hp1
         . rename_i hk;simp at hp1;subst hp1;subst hk;simp only[qg]at g1 g3;subst g1;subst g3;exact run_equalIn_int w d f.type _ k' _ _ hu
         . cases hp1
      simp only[Op.eqFields,if_pos hnm];simp[part,hagg,hxa,hyb,heq];cases p1
      . simp
      . simpa using ih
    . cases he
def Vq:TD->AV->Prop
 | .bool,.bool _=>True
 | .str,.str _=>True
 | .int _,.int .. =>True
 | _,_=>False
theorem kF:∀ (tds:List TD) (as:List AV),zR tds as=true->as.length=tds.length /\
 ∀ (j:Nat) (td:TD) (a:AV),tds[j]?=some td->as[j]?=some a->Vq td a
 | [],[],_=>⟨rfl,by simp⟩
 | [],a::r,h=>by simp[zR]at h
 | td::r,[],h=>by cases td<;>simp[zR]at h
 | td::r,a::s,h=>by
  have:zR r s=true/\Vq td a:=by
   cases td<;>cases a<;>simp[zR]at h<;>exact⟨h,trivial⟩
  obtain⟨h1,h2⟩:=this;obtain⟨i1,i2⟩:=kF r s h1;refine⟨by simp[i1],fun j td' a' e1 e2=>?_⟩
  cases j with
  | zero=>simp at e1 e2;rw[<- e1,<- e2];exact h2
  | succ j=>exact i2 j td' a' (by simpa using e1) (by simpa using e2)
theorem ZC {t:Nat}{tds:List TD}(h:YX (Dof P) t=some tds) :
 ∃ fields : Array Field, P.underlying t = some (.struct fields) ∧ P.stoodInHeld t = false ∧ tds = fields.toList.map (fun f => qU (Dof P) f.type) ∧ (∀ f ∈ fields.toList, yM (Dof P) f.type = true ∧ f.name ≠ "_") ∧
  fields.toList.map (·.offset)=List.range fields.size:=by
 unfold YX at h;split at h
 . rename_i i hD;obtain⟨inf,d,z,hi,hu,_,rfl⟩:=qs hD;simp only at h;split at h
   . rename_i fs hd;obtain⟨fields,rfl,rfl,_,hnm⟩:=qj4 hd;split at h
     . rename_i hc;simp only[Option.some.injEq]at h;simp only[qqi,qrv,beq_iff_eq,qrz,qqS,qrc,qtv,qqo]at hc;obtain⟨⟨h1,h2⟩,h3⟩:=hc;refine⟨fields,hu,h1,by rw[<- h];simp,fun f hf=>⟨h2 f hf,hnm f hf⟩,?_⟩;rw[<- h3];rfl
     . cases h
   . cases h
 . cases h
theorem wk {t:Nat}(h:yM (Dof P) t=true)(d:Nat):P.eqGuardType (d+1) t=false:=by
 obtain⟨inf,hi,hu⟩:=wC h;rcases hu with hu|hu|⟨k,hu⟩<;>simp[Program.eqGuardType,hu]
theorem Y5 (d:Nat){e:Nat}(he:yM (Dof P) e=true)(xs ys:Array Value):∀ (n k:Nat) (as bs:List AV) (p:Bool),as.length=n ->
 qh K as (xs.toList.drop k)->qh K bs (ys.toList.drop k)->zX as bs=some p ->
 (∀ a∈as,(match P.underlying e,a with | some .bool,.bool _=>True | some .string,.str _=>True | some (.int _),.int .. =>True | _,_=>False)) ->
 (Op.eqItems (d+1) e 1 xs ys (List.range' k n)).run P w=.ok p w
 | 0,k,as,bs,p,hl,h1,h2,hq,_=>by
  have:as=[]:=qqv hl;subst this
  cases bs with
  | nil=>simp[zX]at hq;subst hq;simp[Op.eqItems]
  | cons=>simp[zX]at hq
 | n+1,k,as,bs,p,hl,h1,h2,hq,ht=>by
  cases as with
  | nil=>simp at hl
  | cons a as=>
   cases bs with
   | nil=>simp[zX]at hq
   | cons b bs=>
    simp only[qh]at h1 h2;obtain⟨va,ra,e1,g1,g2⟩:=h1;obtain⟨vb,rb,e2,g3,g4⟩:=h2;simp only[zX]at hq;split at hq
    . rename_i p1 q1 hp1 hq1;simp only[Option.some.injEq]at hq;subst hq;have htk:=ht a (by simp);have hxa:xs[k]?=some va:=by
       have:(xs.toList.drop k)[0]?=some va:=by rw[e1];rfl
       simpa using this
      have hyb:ys[k]?=some vb:=by
       have:(ys.toList.drop k)[0]?=some vb:=by rw[e2];rfl
       simpa using this
      have hdx:ra=xs.toList.drop (k+1):=by
       have:=congrArg List.tail e1;simpa using this.symm
      have hdy:rb=ys.toList.drop (k+1):=by
       have:=congrArg List.tail e2;simpa using this.symm
      have ih:=Y5 d he xs ys n (k+1) as bs q1 (by simpa using hl) (hdx▸g2) (hdy▸g4) hq1 (fun a' h'=>ht a' (by simp[h']));obtain⟨inf,hi,hu⟩:=wC he;have hagg:(isAgg e).run P w=.ok false w:=by
       rcases hu with hu|hu|⟨k,hu⟩<;>simp[isAgg,run_underlying hu]
      have heq:(Op.equalIn (d+1) e va vb).run P w=.ok p1 w:=by
       rcases hu with hu|hu|⟨k',hu⟩
       . rw[hu]at htk;cases a<;>simp at htk;cases b<;>simp[ka]at hp1;subst hp1;simp only[qg]at g1 g3;subst g1;subst g3;simp[Op.equalIn,run_underlying hu]
       . rw[hu]at htk;cases a<;>simp at htk;cases b<;>simp[ka]at hp1;subst hp1;simp only[qg]at g1 g3;subst g1;subst g3;rw[run_equalIn_string w d e _ _ hu,yo,yo]
       . rw[hu]at htk;cases a<;>simp at htk;cases b<;>simp only[ka]at hp1<;>try (cases hp1;done)
         split at hp1
         . rename_i hk;simp at hp1;subst hp1;subst hk;simp only[qg]at g1 g3;subst g1;subst g3;exact run_equalIn_int w d e _ k' _ _ hu
         . cases hp1
      rw[qrt];simp only[Op.eqItems];simp[part,hagg,hxa,hyb,heq];cases p1
      . simp
      . simpa using ih
    . cases hq
theorem qjl {t:Nat}{tds:List TD}(h:arrT (Dof P) t=some tds) :
 ∃ n e inf td,P.underlying t=some (.array n e)/\P.info? e=some inf/\P.cellsOf e=1/\yM (Dof P) e=true/\tds=List.replicate n (ve P td)/\P.underlying e=some td:=by
 unfold arrT at h;split at h
 . rename_i i hD;obtain⟨inf,d,z,hi,hu,_,rfl⟩:=qs hD;simp only at h;split at h
   . rename_i n e hd;split at h
     . rename_i j hj;obtain⟨inf2,d2,z2,hi2,hu2,_,rfl⟩:=qs hj;split at h
       . rename_i hc;simp only[Option.some.injEq]at h;simp only[qqi,beq_iff_eq]at hc;exact⟨n,e,inf2,d2,by rw[hu,qam hd],hi2,by simp[Program.cellsOf,hi2,hc.2],hc.1,h.symm,hu2⟩
       . cases h
     . cases h
   . cases h
 . cases h
theorem qiy {t:Nat}{tds:List TD}{a b:List AV}{p:Bool}(ht:arrT (Dof P) t=some tds)(hfit:zR tds a=true)(h:zX a b=some p){as bs:Array Value}(ha:qh K a as.toList)(hb:qh K b bs.toList) :
 P.eqGuardType P.depth t=false/\(Op.equalIn 10000 t (.agg as) (.agg bs)).run P w=.ok p w:=by
 obtain⟨n,e,inf,td,hu,hi,hc,hpl,rfl,hue⟩:=qjl ht;obtain⟨hl,hk⟩:=kF _ _ hfit;constructor
 . have:∃ d,P.depth=d+2:=⟨2*(P.types.size+Made.depth),rfl⟩;obtain⟨d,hd⟩:=this;rw[hd,Program.eqGuardType];simp only[hu];exact wk hpl d
 . rw[run_equalIn_array w 9999 as bs hu hi,hc,qrr];refine Y5 9998 hpl as bs n 0 a b p (by simpa using hl) (by simpa using ha) (by simpa using hb) h ?_;intro x hx;obtain⟨j,hj⟩:=List.mem_iff_getElem?.1 hx;have hjl:j<n:=by
    obtain⟨h1,_⟩:=qqc.1 hj;simpa[hl] using h1
   have hf:=hk j (ve P td) x (by simp[hjl]) hj;rw[hue];cases hd:ve P td<;>simp only[hd]at hf<;>cases x<;>simp only[Vq]at hf
   . rw[WT hd];trivial
   . rw[ZZ hd];trivial
   . rw[vo hd];trivial
theorem Y6 {t:Nat}{a b:List AV}{p:Bool}(h:Vw (Dof P) t a b=some p){as bs:Array Value}(ha:qh K a as.toList)(hb:qh K b bs.toList) :
 P.eqGuardType P.depth t=false/\(Op.equalIn 10000 t (.agg as) (.agg bs)).run P w=.ok p w:=by
 unfold Vw at h;split at h
 . rename_i tds htds;split at h
   . rename_i hfit;obtain⟨fields,hu,hst,rfl,hpl,hoff⟩:=ZC htds;obtain⟨hl,hk⟩:=kF _ _ hfit;have hfo:P.fieldsOf t=fields:=(by simp[Program.fieldsOf,hu]);constructor
     . have:∃ d,P.depth=d+2:=⟨2*(P.types.size+Made.depth),rfl⟩;obtain⟨d,hd⟩:=this;rw[hd];rw[Program.eqGuardType];simp only[hu];rw[<- Array.any_toList];rw[qrD];intro f hf;have:=wk (hpl f hf).1 d;simp[this]
     . rw[run_equalIn_struct w 9999 t as bs (by rw[hfo];exact hu) hst,hfo];refine Ja 9998 as bs fields.toList 0 a b p hpl (by rw[hoff,qrr];simp) (by simpa using hl) (by simpa using ha) (by simpa using hb) h ?_;intro j f x e1 e2;have:=hk j (qU (Dof P) f.type) x (by simp[e1]) e2;have hp:=(hpl f (qqd e1)).1;unfold yM at hp;unfold qU at this
       cases hD:Dof P f.type with
       | none=>simp[hD]at hp
       | some i=>
        obtain⟨inf,d,z,hi,hu',_,rfl⟩:=qs hD;simp only[hD]at this;rw[hu'];cases hd:ve P d<;>simp only[hd]at this<;>cases x<;>simp only[Vq]at this
        . rw[WT hd];trivial
        . rw[ZZ hd];trivial
        . rw[vo hd];trivial
   . cases h
 . split at h
   . rename_i tds htds;split at h
     . rename_i hfit;exact qiy htds hfit h ha hb
     . cases h
   . cases h
theorem qje {op:BinOp}{t:Nat}{x y v:AV}{x' y':Value}(hx:qg K x x')(hy:qg K y y')(hf:qmf (Dof P) op t x y=some v)(ox oy:Operand) :
 ∃ v',(do eqGuard op t ox oy x' y';binOp op t x' y':Sem Value).run P w=.ok v' w/\qg K v v':=by
 have guard:∀ {a b:Value},(∀ s,a≠.agg s)->a≠.nilIface->(eqGuard op t ox oy a b).run P w=.ok () w:=by
  intro a b h1 h2;cases op<;>simp[eqGuard]<;>cases a<;>first | exact absurd rfl (h1 _) | exact absurd rfl h2 | rfl | simp
 unfold qmf at hf;split at hf
 . rename_i k a k' b;simp only[qg]at hx hy;subst hx;subst hy;split at hf
   . split at hf
     . cases hf
     . rename_i hb;simp only[Option.some.injEq]at hf;subst hf;exact⟨.int k (k.wrap (a*2 ^ (min b.toNat k.bits))),by rw[Sem.run_bind,guard (by simp) (by simp),Result.andThen_ok];simp[binOp,Op.shift,hb],by simp[qg]⟩
   . split at hf
     . cases hf
     . rename_i hb;simp only[Option.some.injEq]at hf;subst hf;exact⟨.int k (a.fdiv (2 ^ (min b.toNat k.bits))),by rw[Sem.run_bind,guard (by simp) (by simp),Result.andThen_ok];simp[binOp,Op.shift,hb],by simp[qg]⟩
   . rename_i h1 h2;split at hf
     . rename_i hk;subst hk;obtain⟨v',e1,e2⟩:=qcM (P:=P) (K:=K) (w:=w) hf t ⟨fun e=>h1 e,fun e=>h2 e⟩;exact⟨v',by rw[Sem.run_bind,guard (by simp) (by simp),Result.andThen_ok];exact e1,e2⟩
     . cases hf
 . rename_i a b;simp only[qg]at hx hy;subst hx;subst hy;have key:∀ u:Value,(Op.stringOp op ⟨a.toArray⟩ ⟨b.toArray⟩).run P w=.ok u w->(do eqGuard op t ox oy (.string ⟨a.toArray⟩) (.string ⟨b.toArray⟩);binOp op t (.string ⟨a.toArray⟩) (.string ⟨b.toArray⟩):Sem Value).run P w=.ok u w:=by
    intro u hu;rw[Sem.run_bind,guard (by simp) (by simp),Result.andThen_ok];cases op<;>simpa[binOp] using hu
   cases op<;>simp only[qn8]at hf
   case add=>
    split at hf
    . rename_i hl;simp only[Option.some.injEq]at hf;subst hf;refine⟨.string ⟨(a++b).toArray⟩,key _ ?_,by simp[qg]⟩;have:¬ (((⟨a.toArray⟩:ByteArray).size+(⟨b.toArray⟩:ByteArray).size:Nat):Int) > IntKind.i64.max:=by
       rw[QH,QH];simp[IntKind.max,IntKind.signed,IntKind.bits];omega
      simp only[Op.stringOp];rw[if_neg this,qfk];rfl
    . cases hf
   all_goals first
    | (cases hf;done)
    | (simp only[Option.some.injEq]at hf;subst hf
       exact⟨.bool _,key _ (by simp only[Op.stringOp,yo,pure,Sem.run];rfl),by simp[qg]⟩)
 . rename_i a b;simp only[qg]at hx hy;subst hx;subst hy;have hty:qU (Dof P) t=.bool->P.underlying t=some .bool:=by
    intro e;unfold qU at e;split at e
    . rename_i i hD;obtain⟨inf,d,z,hi,hu,_,rfl⟩:=qs hD;rw[hu,WT e]
    . cases e
   split at hf
   . rename_i htd;simp only[Option.some.injEq]at hf;subst hf;exact⟨.bool (a==b),by rw[Sem.run_bind,guard (by simp) (by simp),Result.andThen_ok];simp[binOp,Op.equal,Op.maxDepth,run_equalIn_bool' w 9999 t a b (hty htd)],by simp[qg]⟩
   . rename_i htd;simp only[Option.some.injEq]at hf;subst hf;exact⟨.bool (!(a==b)),by rw[Sem.run_bind,guard (by simp) (by simp),Result.andThen_ok];simp[binOp,Op.equal,Op.maxDepth,run_equalIn_bool' w 9999 t a b (hty htd)],by simp[qg]⟩
   . cases hf
 . rename_i a b;simp only[qg]at hx hy;obtain⟨as,rfl,ha⟩:=hx;obtain⟨bs,rfl,hb⟩:=hy;split at hf
   . obtain⟨p,hp,rfl⟩:=qqj.1 hf;obtain⟨e1,e2⟩:=Y6 (w:=w) hp ha hb;exact⟨.bool p,by simp only[Sem.run_bind,run_eqGuard_agg w _ t ox oy as bs e1,Result.andThen_ok,run_eql_struct,e2],by simp[qg]⟩
   . obtain⟨p,hp,rfl⟩:=qqj.1 hf;obtain⟨e1,e2⟩:=Y6 (w:=w) hp ha hb;exact⟨.bool (!p),by simp only[Sem.run_bind,run_eqGuard_agg w _ t ox oy as bs e1,Result.andThen_ok,run_neq_struct,e2],by simp[qg]⟩
   . cases hf
 . cases hf
theorem YS (f:Value->ByteArray->Sem (ForInStep ByteArray))(hf:∀ n s,f (.int .u8 n) s=pure (ForInStep.yield (s.push (UInt8.ofNat n.toNat)))) :
 ∀ (rows:List (List AV)) (vs:List Value) (l:List UInt8) (s:ByteArray),qh K rows.flatten vs->bytesOf rows=some l ->
 (forIn vs s f:Sem ByteArray).run P w=.ok ⟨(s.data.toList++l).toArray⟩ w
 | [],vs,l,s,h,hl=>by
  simp[bytesOf]at hl;subst hl;simp only[List.flatten_nil,qh]at h;subst h;simp
 | r::rows,vs,l,s,h,hl=>by
  unfold bytesOf at hl;split at hl
  . rename_i hx;simp at hx
  . rename_i n r' hx;simp only[List.cons.injEq]at hx;obtain⟨rfl,rfl⟩:=hx;obtain⟨l',hl',rfl⟩:=qqj.1 hl;simp only[qqW,qr3,qh,qg]at h;obtain⟨v,vr,rfl,rfl,h2⟩:=h;have ih:=YS f hf rows vr l' (s.push (UInt8.ofNat n.toNat)) h2 hl';simp only[List.forIn_cons,hf];simp only[pure,Sem.run_bind,Sem.run,Result.andThen_ok];rw[ih];simp
  . cases hl
theorem qf8 (h:WRel G w0 ro0 K U w){s d:Nat}{x v:AV}{x':Value}(hx:qg K x x')(hf:yK (Dof P) s d x=some v) :
 ∃ v',(convert s d x').run P w=.ok v' w/\qg K v v':=by
 unfold yK at hf;split at hf
 . rename_i i j k n hi hj;obtain⟨inf,d1,z,hi1,hu1,_,rfl⟩:=qs hi;obtain⟨inf2,d2,z2,hi2,hu2,_,rfl⟩:=qs hj;simp only at hf;split at hf
   . rename_i k1 k2 e1 e2;simp only[Option.some.injEq]at hf;subst hf;simp only[qg]at hx;subst hx;refine⟨.int k2 (k2.wrap n),?_,by simp[qg]⟩;have e1':=ZZ e1;have e2':=ZZ e2;subst e1' e2';simp[convert,run_underlying hu1,run_underlying hu2,Conv.intToInt]
   . cases hf
 . rename_i i j l hi hj;obtain⟨inf,d1,z,hi1,hu1,_,rfl⟩:=qs hi;obtain⟨inf2,d2,z2,hi2,hu2,_,rfl⟩:=qs hj;simp only at hf;split at hf
   . rename_i e1 e2;simp only[Option.some.injEq]at hf;subst hf;simp only[qg]at hx;subst hx;refine⟨.string ⟨l.toArray⟩,?_,by simp[qg]⟩;have e1':=vo e1;have e2':=vo e2;subst e1' e2';simp[convert,run_underlying hu1,run_underlying hu2]
   . cases hf
 . rename_i i j rows tok hi hj;obtain⟨inf,d1,z,hi1,hu1,_,rfl⟩:=qs hi;obtain⟨inf2,d2,z2,hi2,hu2,_,rfl⟩:=qs hj;simp only at hf;split at hf
   . rename_i e e1 e2;have e1':=wZ e1;have e2':=vo e2;subst e1' e2';split at hf
     . rename_i m hm;obtain⟨inf3,d3,z3,hi3,hu3,_,rfl⟩:=qs hm;simp only at hf;split at hf
       . rename_i e3;have e3':=ZZ e3;subst e3';obtain⟨l,hl,rfl⟩:=qqj.1 hf;simp only[qg]at hx;rcases hx with ⟨⟨a0,rfl,_⟩,rfl,_⟩|⟨B,off,cap,rfl,hcap,hrows,_⟩
         . simp[bytesOf]at hl;subst hl;refine⟨.string .empty,?_,by simp[qg];rfl⟩;cases a0<;>simp[convert,run_underlying hu1,run_underlying hu2,run_underlying hu3,Conv.bytesToString,loadCells,loadCellsFrom]
         . obtain⟨f1,f2,f3⟩:=qJ.flat B 1 rows off hrows;obtain⟨vs,g1,g2⟩:=qgm.of_cellsAt h.ro B _ off f1;have hcl:=run_loadCells_list (P:=P) w ⟨B,off,none⟩ vs (fun j v e=>by rw[ja];exact g2 j v e);have hlen:vs.length=rows.length:=(by rw[g1.length,f2];omega);rw[hlen]at hcl;refine⟨.string ⟨l.toArray⟩,?_,by simp[qg]⟩;simp only[convert,run_underlying hu1,run_underlying hu2,run_underlying hu3,Conv.bytesToString,Sem.run_bind,Result.andThen_ok,hcl];rw[<- Array.forIn_toList];simp only[];rw[YS (P:=P) (w:=w) _ (fun n s=>rfl) rows _ l ByteArray.empty (by simpa using g1) hl];simp[ByteArray.empty,ByteArray.emptyWithCapacity];rfl
       . cases hf
     . cases hf
   . cases hf
 . cases hf
end
end
section
section
variable {P:Program}{G:Nat->AV}{w0:World}{ro0:Nat->Nat->Option Value}{K:Kn}{U:St}{w w':World}
theorem yw {k:IntKind}{n:Int}{y:Nat}(h0:0<=n)(h1:n<=y)(c:BoundsCode):(Instr.sliceBound (.int k n) y c).run P w=.ok n.toNat w:=by
 simp[Instr.sliceBound,asIntOf,h0,h1]
theorem jE {isS:Bool}{len cap:Nat}{lo hi mx:Option AV}{lo' hi' mx':Option Value}(hlo:∀ a,lo=some a->∃ v,lo'=some v/\qg K a v)(hlo0:lo=none->lo'=none)
 (hhi:∀ a,hi=some a->∃ v,hi'=some v/\qg K a v) (hhi0:hi=none->hi'=none) (hmx:∀ a,mx=some a->∃ v,mx'=some v/\qg K a v) (hmx0:mx=none->mx'=none)
 {l h:Int} (el:zU lo 0=some l) (eh:zU hi len=some h)
 (hle:0<=l/\l<=h/\h<=len) (hlc:len<=cap) (em:∀ a,mx=some a->wX a=some h/\hi.isSome) :
 (Instr.sliceBounds isS len cap lo' hi' mx').run P w=.ok (l.toNat,h.toNat,if mx.isSome then h.toNat else cap) w:=by
 obtain⟨h1,h2,h3⟩:=hle;have hlb:∀ c,(match lo' with | some v=>Instr.sliceBound v h.toNat c | none=>(pure 0:Sem Nat)).run P w=.ok l.toNat w:=by
  intro c
  cases lo with
  | none=>
   rw[hlo0 rfl];simp[zU]at el;subst el;simp
  | some a=>
   obtain⟨v,rfl,hv⟩:=hlo a rfl;obtain⟨k,rfl⟩:=j5 el hv;exact yw h1 (by omega) c
 cases mx with
 | none=>
  rw[hmx0 rfl]
  cases hi with
  | none=>
   rw[hhi0 rfl];simp only[zU,Option.some.injEq]at eh;subst eh;have:=hlb .sliceB
   cases hl':lo' with
   | none=>simp[hl']at this;simp[Instr.sliceBounds];omega
   | some v=>simp[hl']at this;simp[Instr.sliceBounds,this]
  | some a=>
   obtain⟨v,rfl,hv⟩:=hhi a rfl;obtain⟨k,rfl⟩:=j5 eh hv;have hb:=fun c=>yw (P:=P) (w:=w) (k:=k) (n:=h) (y:=cap) (by omega) (by omega) c
   have:=hlb .sliceB
   cases hl':lo' with
   | none=>simp[hl']at this;simp[Instr.sliceBounds,hb];omega
   | some v=>simp[hl']at this;simp[Instr.sliceBounds,hb,this]
 | some a=>
  obtain⟨v,rfl,hv⟩:=hmx a rfl;obtain⟨e1,e2⟩:=em a rfl;obtain⟨k,rfl⟩:=j5 e1 hv
  cases hi with
  | none=>simp at e2
  | some b=>
   obtain⟨u,rfl,hu⟩:=hhi b rfl;obtain⟨k',rfl⟩:=j5 eh hu;have hb:=fun c=>yw (P:=P) (w:=w) (k:=k) (n:=h) (y:=cap) (by omega) (by omega) c
   have hb':=fun c=>yw (P:=P) (w:=w) (k:=k') (n:=h) (y:=h.toNat) (by omega) (by omega) c
   have:=hlb .slice3C
   cases hl':lo' with
   | none=>simp[hl']at this;simp[Instr.sliceBounds,hb,hb'];omega
   | some v=>simp[hl']at this;simp[Instr.sliceBounds,hb,hb',this]
theorem qJ.sub {B sz:Nat}{rows:List (List AV)}{off:Nat}(h:qJ K B off sz rows)(l n:Nat):qJ K B (off+l*sz) sz ((rows.take n).drop l):=by
 refine qJ.intro B sz _ _ fun i r e=>?_
 rw[qq1,qq2]at e;split at e
 . obtain⟨h1,h2,h3⟩:=qJ.get B sz rows off h _ _ e;exact⟨h1,h2,by rw[qra]at h3;rwa[qsb]⟩
 . cases e
theorem qcB {N:Nat}{env:Env}{a:Act}(hw:WRel G w0 ro0 K U w)(he:ERel K N env a)(o:Option Operand) :
 (∀ x,o.map (ev G env)=some x->∃ v,o.map a.eval=some v/\qg K x v)/\(o.map (ev G env)=none->o.map a.eval=none):=by
 cases o with
 | none=>simp
 | some x=>exact⟨fun y e=>by simp at e;subst e;exact⟨_,rfl,Q9 hw he x⟩,by simp⟩
theorem qg6 {t:Nat}(hu:P.underlying t=some .string){s:List UInt8}{lo hi mx:Option AV}{lo' hi' mx':Option Value}(hlo:∀ a,lo=some a->∃ v,lo'=some v/\qg K a v)(hlo0:lo=none->lo'=none)
 (hhi:∀ a,hi=some a->∃ v,hi'=some v/\qg K a v) (hhi0:hi=none->hi'=none) (hmx0:mx=none->mx'=none)
 {v:AV} (hf:zq (.str s) lo hi mx=some v):∃ v',(Instr.sliceAt t (.string ⟨s.toArray⟩) lo' hi' mx').run P w=.ok v' w/\qg K v v':=by
 unfold zq at hf;simp only at hf;split at hf
 . rename_i l h el eh;split at hf
   . rename_i hc;simp only[Option.some.injEq]at hf;subst hf;rw[hmx0 rfl];have hb:=jE (P:=P) (w:=w) (K:=K) (isS:=false) (len:=s.length) (cap:=s.length) hlo hlo0 hhi hhi0 (mx:=none) (mx':=none) (by simp) (by simp) el eh hc (qqn _) (by simp);refine⟨.string ⟨((s.take h.toNat).drop l.toNat).toArray⟩,?_,by simp[qg]⟩;simp only[qsS,qqy,if_false]at hb;simp only[Instr.sliceAt,Instr.slice,Sem.run_bind,run_underlying hu,Result.andThen_ok,QH];simp only[qsS,qqy,if_false,Sem.run_bind,pure,Sem.run,Result.andThen_ok,hb];rw[qcn]
   . cases hf
 . cases hf
theorem qkf {t e:Nat}(hu:P.underlying t=some (.slice e)){inf:TypeInfo}(hi2:P.info? e=some inf){sz:Nat}{rows:List (List AV)}{tok:Tok}(hsz:sz=inf.size\/rows=[])
 {x':Value} (hx:qg K (.sl sz rows tok) x')
 {lo hi mx:Option AV} {lo' hi' mx':Option Value} (hlo:∀ a,lo=some a->∃ v,lo'=some v/\qg K a v) (hlo0:lo=none->lo'=none)
 (hhi:∀ a,hi=some a->∃ v,hi'=some v/\qg K a v) (hhi0:hi=none->hi'=none) (hmx:∀ a,mx=some a->∃ v,mx'=some v/\qg K a v) (hmx0:mx=none->mx'=none)
 {v:AV} (hf:zq (.sl sz rows tok) lo hi mx=some v):∃ v',(Instr.sliceAt t x' lo' hi' mx').run P w=.ok v' w/\qg K v v':=by
 unfold zq at hf;simp only at hf;split at hf
 . rename_i l h el eh;split at hf
   . rename_i hc;obtain⟨c1,c2,c3,c4⟩:=hc;simp only[Option.some.injEq]at hf;subst hf;have hmm:∀ a,mx=some a->wX a=some h/\hi.isSome:=by
      intro a ha;subst ha;simpa[kv] using c4
     simp only[qg]at hx;rcases hx with ⟨⟨a0,rfl,ha0⟩,rfl,htok⟩|⟨B,off,cap,rfl,hcap,hrows,htok⟩
     . have hb:=jE (P:=P) (w:=w) (K:=K) (isS:=true) (len:=0) (cap:=0) hlo hlo0 hhi hhi0 hmx hmx0 el (by simpa using eh) ⟨c1,c2,by simpa using c3⟩ (qqn _) hmm;have hl0:l.toNat=0:=(by simp at c3;omega);have hh0:h.toNat=0:=(by simp at c3;omega);rw[hl0,hh0]at hb;refine⟨.slice a0 0 0,?_,?_⟩
       . simp only[Instr.sliceAt,Instr.slice,Sem.run_bind,run_underlying hu,Result.andThen_ok,hb];cases a0<;>simp[sizeOf,typeInfo,hi2]
       . simp only[qg];refine .inl ⟨⟨a0,rfl,?_⟩,by simp,?_⟩
         . rcases ha0 with rfl|rfl
           . exact .inl rfl
           . refine .inr ?_;rw[hl0,hh0];cases mx<;>simp[zY,Tok.known]
         . rw[hl0,hh0];cases mx<;>cases tok<;>simp[zY,Tok.known,Tok.plain]<;>exact htok.elim
     . have hb:=jE (P:=P) (w:=w) (K:=K) (isS:=true) (len:=rows.length) (cap:=cap) hlo hlo0 hhi hhi0 hmx hmx0 el eh ⟨c1,c2,c3⟩ hcap hmm;have hln:l.toNat<=h.toNat:=(by omega);have hhn:h.toNat<=rows.length:=(by omega);have hM:h.toNat<=(if mx.isSome then h.toNat else cap):=(by split<;>omega);have hMc:(if mx.isSome then h.toNat else cap)<=cap:=(by split<;>omega);generalize hMe:(if mx.isSome then h.toNat else cap)=M at hb hM hMc;have hrl:((rows.take h.toNat).drop l.toNat).length=h.toNat-l.toNat:=(by simp;omega);refine⟨.slice (some ⟨B,if M=l.toNat then off else off+l.toNat*inf.size,none⟩) (h.toNat-l.toNat) (M-l.toNat),?_,?_⟩
       . simp only[Instr.sliceAt,Instr.slice,Sem.run_bind,run_underlying hu,Result.andThen_ok,hb];simp[sizeOf,typeInfo,hi2,ja];split<;>rfl
       . simp only[qg];refine .inr ⟨B,_,M-l.toNat,by rw[hrl],by rw[hrl];omega,?_,?_⟩
         . by_cases he:M=l.toNat
           . have:(rows.take h.toNat).drop l.toNat=[]:=qqv (by rw[hrl];omega);rw[this];simp[qJ]
           . rw[if_neg he];rcases hsz with hsz|hsz
             . rw[<- hsz];exact qJ.sub hrows _ _
             . subst hsz;simp[qJ]
         . rw[hrl]
           cases hms:mx.isSome with
           | true=>
            rw[hms]at hMe;simp only[if_true]at hMe;simp only[if_true,zY];by_cases hcn:True/\(0<rows.length\/tok.known=true)
            . rw[if_pos hcn];simp only[kj];omega
            . rw[if_neg hcn];trivial
           | false=>
            rw[hms]at hMe;simp only[qqy,if_false]at hMe;simp only[qqy,if_false,zY]
            cases tok with
            | none=>trivial
            | nil=>trivial
            | tight=>
             by_cases hn:h.toNat=rows.length
             . simp only[if_pos hn,kj]at htok ⊢;omega
             . simp only[if_neg hn,kj]
            | chain ct ck=>
             by_cases hn:l.toNat=0/\h.toNat=rows.length
             . simp only[if_pos hn];obtain⟨h01,h02⟩:=hn;rw[h01,h02];simp only[qrK,qrl,qtw,ite_self,<- hMe];exact htok
             . simp only[if_neg hn,kj]
   . cases hf
 . cases hf
theorem qkg {t e:Nat}(hu:P.underlying t=some (.slice e)){inf:TypeInfo}(hi2:P.info? e=some inf){b off len:Nat}
 {x':Value} (hx:qg K (.ms b off len inf.size) x')
 {lo hi mx:Option AV} {lo' hi' mx':Option Value} (hlo:∀ a,lo=some a->∃ v,lo'=some v/\qg K a v) (hlo0:lo=none->lo'=none)
 (hhi:∀ a,hi=some a->∃ v,hi'=some v/\qg K a v) (hhi0:hi=none->hi'=none) (hmx0:mx=none->mx'=none)
 {v:AV} (hf:zq (.ms b off len inf.size) lo hi mx=some v):∃ v',(Instr.sliceAt t x' lo' hi' mx').run P w=.ok v' w/\qg K v v':=by
 unfold zq at hf;simp only at hf;split at hf
 . rename_i l h el eh;split at hf
   . rename_i hc;obtain⟨c1,c2,c3,c4⟩:=hc;simp only[Option.some.injEq]at hf;subst hf;rw[hmx0 rfl];simp only[qg]at hx;obtain⟨B,cap,hm,rfl,hcap,hpos,hbs⟩:=hx;have hb:=jE (P:=P) (w:=w) (K:=K) (isS:=true) (len:=len) (cap:=cap) hlo hlo0 hhi hhi0 (mx:=none) (mx':=none) (by simp) (by simp) el eh ⟨c1,c2,c3⟩ hcap (by simp);simp only[qsS,qqy,if_false]at hb;have hne:¬ cap=l.toNat:=(by omega);refine⟨.slice (some ⟨B,off+l.toNat*inf.size,none⟩) (h.toNat-l.toNat) (cap-l.toNat),?_,?_⟩
     . simp only[Instr.sliceAt,Instr.slice,Sem.run_bind,run_underlying hu,Result.andThen_ok,hb];simp[sizeOf,typeInfo,hi2,ja,hne]
     . simp only[qg];refine⟨B,cap-l.toNat,hm,rfl,by omega,by omega,?_⟩;have:cap*inf.size=l.toNat*inf.size+(cap-l.toNat)*inf.size:=by rw[<- qra];congr 1;omega
       omega
   . rename_i hc1;split at hf
     . rename_i hc;obtain⟨c1,c2⟩:=hc;simp only[Option.some.injEq]at hf;subst hf;rw[hmx0 rfl];simp only[qg]at hx;obtain⟨B,cap,hm,rfl,hcap,hpos,hbs⟩:=hx;have hb:=jE (P:=P) (w:=w) (K:=K) (isS:=true) (len:=len) (cap:=cap) hlo hlo0 hhi hhi0 (mx:=none) (mx':=none) (by simp) (by simp) el eh ⟨by omega,by omega,by omega⟩ hcap (by simp);simp only[qsS,qqy,if_false]at hb;refine⟨.slice (some (if cap=l.toNat then ⟨B,off,none⟩ else ⟨B,off+l.toNat*inf.size,none⟩)) (h.toNat-l.toNat) (cap-l.toNat),?_,?_⟩
       . simp only[Instr.sliceAt,Instr.slice,Sem.run_bind,run_underlying hu,Result.andThen_ok,hb];by_cases hcl:cap=l.toNat<;>simp[sizeOf,typeInfo,hi2,ja,hcl]
       . have e0:h.toNat-l.toNat=0:=(by omega);simp only[qg];right;by_cases hcl:cap=l.toNat
         . exact⟨B,off,cap-l.toNat,by rw[if_pos hcl,e0];rfl,by simp,by simp[qJ],by simp[kj]⟩
         . exact⟨B,off+l.toNat*inf.size,cap-l.toNat,by rw[if_neg hcl,e0];rfl,by simp,by simp[qJ],by simp[kj]⟩
     . cases hf
 . cases hf
theorem qhW (h:WRel G w0 ro0 K U w){t:Nat}{x v:AV}{x':Value}(hx:qg K x x')(ty:Nat)(hf:JG (Dof P) U t x=some v) :
 ∃ v',(Builtin.len_ #[t] ty #[x']).run P w=.ok v' w/\qg K v v':=by
 unfold JG at hf;split at hf
 . rename_i i hD;obtain⟨inf,d,z,hi,hu,_,rfl⟩:=qs hD;simp only at hf;split at hf
   . rename_i s hd;have:=vo hd;subst this;simp only[Option.some.injEq]at hf;subst hf;simp only[qg]at hx;subst hx;exact⟨.int .i64 s.length,by simp[Builtin.len_,run_underlying hu,goInt,QH],by simp[qg]⟩
   . rename_i e sz rows tok hd;have:=wZ hd;subst this;simp only[Option.some.injEq]at hf;subst hf;simp only[qg]at hx;rcases hx with ⟨⟨a0,rfl,_⟩,rfl,_⟩|⟨B,off,cap,rfl,_⟩
     . exact⟨.int .i64 0,by simp[Builtin.len_,run_underlying hu,goInt],by simp[qg]⟩
     . exact⟨.int .i64 rows.length,by simp[Builtin.len_,run_underlying hu,goInt],by simp[qg]⟩
   . rename_i e b off len sz hd;have:=wZ hd;subst this;simp only[Option.some.injEq]at hf;subst hf;simp only[qg]at hx;obtain⟨B,cap,hm,rfl,_⟩:=hx;exact⟨.int .i64 len,by simp[Builtin.len_,run_underlying hu,goInt],by simp[qg]⟩
   . rename_i n e hd;have:=qam hd;subst this;simp only[Option.some.injEq]at hf;subst hf;exact⟨.int .i64 n,by simp[Builtin.len_,run_underlying hu,goInt],by simp[qg]⟩
   . rename_i k e hd;have:=J7 hd;subst this;simp only[Option.some.injEq]at hf;subst hf;simp only[qg]at hx;subst hx;exact⟨.int .i64 0,by simp[Builtin.len_,run_underlying hu,goInt],by simp[qg]⟩
   . rename_i k e b hd;have:=J7 hd;subst this;split at hf
     . rename_i es clock hb;simp only[Option.some.injEq]at hf;subst hf;simp only[qg]at hx;obtain⟨B,hm,rfl⟩:=hx;obtain⟨B',h1,_,_,⟨es',h4,h5,_⟩,_⟩:=h.blk b _ hb;rw[hm]at h1;cases h1;exact⟨.int .i64 es.length,by simp[Builtin.len_,run_underlying hu,goInt,getObj,Sem.run,h4,h5],by simp[qg]⟩
     . cases hf
   . cases hf
 . cases hf
theorem qhO {x y v:AV}{x' y':Value}(hx:qg K x x')(hy:qg K y y')(ts:Array Nat)(ty:Nat)(hf:w7 x y=some v) :
 ∃ v',(Builtin.min_ ts ty #[x',y']).run P w=.ok v' w/\qg K v v':=by
 unfold w7 at hf;split at hf
 . rename_i k a k' b;simp only[Option.some.injEq]at hf;subst hf;simp only[qg]at hx hy;subst hx;subst hy;exact⟨.int k (if b<a then b else a),by simp[Builtin.min_,Builtin.min2],by simp[qg]⟩
 . cases hf
theorem qfK {x y z v:AV}{x' y' z':Value}(hx:qg K x x')(hy:qg K y y')(hz:qg K z z')(ts:Array Nat)(ty:Nat)(hf:qhP x y z=some v) :
 ∃ v',(Builtin.min_ ts ty #[x',y',z']).run P w=.ok v' w/\qg K v v':=by
 unfold qhP at hf;split at hf
 . rename_i k a k' b k'' c;simp only[Option.some.injEq]at hf;subst hf;simp only[qg]at hx hy hz;subst hx;subst hy;subst hz;exact⟨.int k (if c<(if b<a then b else a) then c else if b<a then b else a),by simp[Builtin.min_,Builtin.min2],by simp[qg]⟩
 . cases hf
theorem qhR {x y v:AV}{x' y':Value}(hx:qg K x x')(hy:qg K y y')(ts:Array Nat)(ty:Nat)(hf:qk5 x y=some v) :
 ∃ v',(Builtin.max_ ts ty #[x',y']).run P w=.ok v' w/\qg K v v':=by
 unfold qk5 at hf;split at hf
 . rename_i k a k' b;simp only[Option.some.injEq]at hf;subst hf;simp only[qg]at hx hy;subst hx;subst hy;exact⟨.int k (if b > a then b else a),by simp[Builtin.max_,Builtin.max2],by simp[qg]⟩
 . cases hf
end
end
section
section
variable {P:Program}{G:Nat->AV}{w0:World}{ro0:Nat->Nat->Option Value}{K:Kn}{U:St}{w w':World}
theorem Jk (t ty e el:TypeId)(i:TypeInfo)(ht:P.underlying t=some (.slice e))(hi:P.info? e=some i)
 (g sLen sCap:Nat) (cur:Array Value) (hg:w.heap[g]?=some (.cells cur el (0,0)))
 (a:Addr) (m c:Nat) (news:List Value) (hl:news.length=m*i.size) (hnews:∀ (j:Nat) (u:Value),news[j]?=some u->w.cell? (a.add j)=some u) (h1:∀ u∈news,u.oneCell'=true)
 (hroom:sLen+m<=sCap) (hfit:sLen*i.size+news.length<=cur.size) :
 (Builtin.append_ #[t,t] ty #[.slice (some ⟨g,0,none⟩) sLen sCap,.slice (some a) m c]).run P w =
   .ok (.slice (some ⟨g,0,none⟩) (sLen+m) sCap) (w.setRow g (cur.toList.take (sLen*i.size)++news++cur.toList.drop (sLen*i.size+news.length)).toArray):=by
 have hf:=run_firstCells_some (P:=P) w i.size m a m c news hl hnews;have hst:=run_storeCells_at P g (sLen*i.size) el news 0 cur w hg (by simpa using hfit) h1;simp only[qrl]at hst;simp[Builtin.append_,run_underlying ht,sizeOf,typeInfo,hi,Builtin.lenOf,hroom,hf,Addr.add_lit,hst]
theorem k0 (h:WRel G w0 ro0 K U w){B off sz:Nat}{rows:List (List AV)}(hr:qJ K B off sz rows) :
 ∃ vs:List Value,qh K rows.flatten vs/\vs.length=rows.length*sz/\(∀ (j:Nat) (v:Value),vs[j]?=some v->w.cell? ((⟨B,off,none⟩:Addr).add j)=some v) /\
  rows.flatten.all AV.atom=true/\∀ v∈vs,v.oneCell'=true:=by
 obtain⟨f1,f2,f3⟩:=qJ.flat B sz rows off hr;obtain⟨vs,g1,g2⟩:=qgm.of_cellsAt h.ro B _ off f1;exact⟨vs,g1,by rw[g1.length,f2],fun j v e=>by rw[ja];exact g2 j v e,f3,g1.oneCells f3⟩
theorem WZ {B off sz:Nat}{rows:List (List AV)}(hr:qJ K B off sz rows):∀ r∈rows,r.length=sz:=by
 intro r hx;obtain⟨i,hi⟩:=qqN hx;exact (qJ.get B sz rows off hr i r hi).1
theorem qbh {B' sz k t n newCap:Nat}{rows:List (List AV)}{vs:List Value}{K':Kn}(hv:qh K rows.flatten vs)(hl:vs.length=rows.length*sz)(hrl:∀ r∈rows,r.length=sz)(hat:rows.flatten.all AV.atom=true)
 (hle:K.le K') (hro:∀ (j:Nat) (v:Value),vs[j]?=some v->K'.ro B' j=some v) (hcap:rows.length<=newCap) (ht:t<K'.nch) (C:Chn) (hC:K'.ch t=some C) (hCk:C.k=k) (hCB:C.B=B') (hCs:C.sz=sz)
 (hCf:C.fin=vs.length) (hCc:C.cap=newCap*sz):qg K' (.sl sz rows (.chain t k)) (.slice (some ⟨B',0,none⟩) rows.length newCap):=by
 simp only[qg];refine .inr ⟨B',0,newCap,rfl,hcap,vy rows 0 hrl hat (ql.intro B' _ 0 fun i a e=>?_),?_⟩
 . obtain⟨v,e1,e2⟩:=hv.get i a e;exact⟨v,by simpa using hro i v e1,e2.mono hle⟩
 . refine⟨ht,fun C' hC'=>?_⟩;rw[hC]at hC';cases hC';exact⟨by omega,fun _=>⟨hCB,hCs,rfl,by rw[hCf,hl],hCc.symm⟩⟩
theorem qbP (h:WRel G w0 ro0 K U w){t:Nat}{s x v:AV}{s' x':Value}(hs:qg K s s')(hx:qg K x x')(ty:Nat){U':St}(hf:qO (Dof P) U t s x=some (v,U')) :
 Ran P G w0 ro0 K w (Builtin.append_ #[t,t] ty #[s',x']) v U':=by
 unfold qO at hf;split at hf
 . rename_i i sz rows tok sz2 rows2 hD hro;obtain⟨inf,d,z,hi,hu,_,rfl⟩:=qs hD;simp only at hf;split at hf
   . rename_i e hd;have hd':=wZ hd;subst hd';split at hf
     . rename_i j hj;obtain⟨inf2,d2,z2,hi2,hu2,hz2,rfl⟩:=qs hj;simp only at hf;split at hf
       . rename_i hc;obtain⟨hc1,hc2,hc3,hc4,hc5,hc6⟩:=hc;have hzs:z2.cells.size=inf2.size:=(by simpa using hc4);cases x<;>simp only[zL]at hro<;>try (cases hro;done)
         rename_i szx rowsx tokx;simp only[Option.some.injEq,Prod.mk.injEq]at hro;obtain⟨rfl,rfl⟩:=hro;split at hf
         . -- nothing is appended
           rename_i hn;subst hn;simp only[Option.some.injEq,Prod.mk.injEq]at hf;obtain⟨rfl,rfl⟩:=hf;refine Ran.same h (v':=s') ?_ hs;have hx0:∃ bx cx,x'=.slice bx 0 cx:=by
            simp only[qg]at hx;rcases hx with ⟨⟨a0,rfl,_⟩,_⟩|⟨B2,off2,cap2,rfl,_⟩
            . exact⟨_,_,rfl⟩
            . exact⟨_,_,rfl⟩
           obtain⟨bx,cx,rfl⟩:=hx0;have hf0:(Builtin.firstCells inf2.size 0 (.slice bx 0 cx)).run P w=.ok #[] w:=by
            cases bx<;>simp[Builtin.firstCells,loadCells,loadCellsFrom]
           simp only[qg]at hs;rcases hs with ⟨⟨a0,rfl,_⟩,rfl,_⟩|⟨B,off,cap,rfl,hcap,_⟩
           . cases a0<;>simp[storeCells,Builtin.append_,run_underlying hu,sizeOf,typeInfo,hi2,Builtin.lenOf,hf0]
           . simp[Builtin.append_,run_underlying hu,sizeOf,typeInfo,hi2,Builtin.lenOf,hcap,hf0,storeCells]
         . rename_i hn;have hnpos:0<rowsx.length:=qqt.2 hn;have hszx:szx=inf2.size:=hc2.resolve_right hn;subst hszx;simp only[qg]at hx;rcases hx with ⟨_,rfl,_⟩|⟨B2,off2,cap2,rfl,hcap2,hrows2,_⟩
           . exact absurd rfl hn
           obtain⟨news,n1,n2,n3,n4,n5⟩:=k0 h hrows2;have hn48:rowsx.length*inf2.bytes<=140737488355328:=by
            calc rowsx.length*inf2.bytes<=549755813888*256:=qse (by omega) hc5
             _<=140737488355328:=by omega
           have hb48:(rows.length+rowsx.length)*inf2.bytes<=140737488355328:=by
            calc (rows.length+rowsx.length)*inf2.bytes<=549755813888*256:=qse hc6 hc5
             _<=140737488355328:=by omega
           have rl2:=WZ hrows2
           -- growth into a new block,from whatever is there
           have grow:∀ (olds:List Value) (tt k n:Nat) (T':List (Option Nat)),qh K rows.flatten olds->olds.length=rows.length*inf2.size->(∀ r∈rows,r.length=inf2.size)->rows.flatten.all AV.atom=true ->
            (∀ u k',T'[u]?=some (some k')->(u=tt/\k'=k)\/(u≠tt/\U.T[u]?=some (some k')))->T'[tt]?=some (some k)->(∀ u C,u≠tt->K.ch u=some C->∃ k',T'[u]?=some (some k'))->n=T'.length->K.nch<=n->tt<n ->
            (tt<K.nch->∃ C,K.ch tt=some C/\C.k<k)->∀ old:Nat,
            ∃ K',K.le K'/\WRel G w0 ro0 K' { U with T:=T' } (w.drew.alloc (.cells (olds.toArray++news.toArray++Builtin.zeroCells z2.cells (grownCap w (rows.length+rowsx.length) old e-(rows.length+rowsx.length))) e)) /\
             qg K' (.sl inf2.size (rows++rowsx) (.chain tt k)) (.slice (some ⟨w.heap.size,0,none⟩) (rows.length+rowsx.length) (grownCap w (rows.length+rowsx.length) old e)):=by
            intro olds tt k n T' o1 o2 rl1 oa hT hTt hTk hn' hnch htn hk old;have hge:=grownCap_ge w (rows.length+rowsx.length) old e;generalize hcapN:grownCap w (rows.length+rowsx.length) old e=newCap at hge;have hsize:(olds.toArray++news.toArray++Builtin.zeroCells z2.cells (newCap-(rows.length+rowsx.length))).size=newCap*inf2.size:=by
             simp only[qtl,qs1,size_zeroCells,hzs,o2,n2,<- qra];congr 1;omega
            have hvl:(olds++news).length=(rows++rowsx).length*inf2.size:=(by simp[o2,n2,qra]);obtain⟨w1,w2⟩:=h.drew.chainNew (olds++news) (olds.toArray++news.toArray++Builtin.zeroCells z2.cells (newCap-(rows.length+rowsx.length))) e
             (fun j v ev=>by
               have hjl:=(qqc.1 ev).1;rw[qsJ (by simpa using hjl),<- ev];simp) tt k n T' hT hTt hTk hn' hnch hk inf2.size (by
                rw[hsize,hvl];simp only[qqg];exact qrj _ hge)
            refine⟨_,w2,w1,?_⟩;have:=qbh (K:=K) (B':=w.heap.size) (sz:=inf2.size) (k:=k) (t:=tt) (n:=n) (newCap:=newCap) (rows:=rows++rowsx) (vs:=olds++news)
             (by rw[qrC];exact o1.append n1) hvl (fun r hr=>by rcases qqA.1 hr with hr | hr;exact rl1 r hr;exact rl2 r hr) (by rw[qrC,qrM,oa,n4];rfl)
             w2 (fun j v ev=>by
              have hjl:=(qqc.1 ev).1;show (if w.drew.heap.size=w.drew.heap.size/\0<=j/\j<0+(olds++news).length then (olds++news)[j-0]? else K.ro w.heap.size j)=some v;rw[if_pos ⟨rfl,by omega,by omega⟩];exact ev) (by simpa using hge) htn ⟨k,w.heap.size,(olds++news).length,(olds.toArray++news.toArray++Builtin.zeroCells z2.cells (newCap-(rows.length+rowsx.length))).size,inf2.size⟩ (if_pos rfl) rfl rfl rfl rfl hsize
            simpa using this
           split at hf
           . cases hf
           . -- the nil slice
             simp only[Option.some.injEq,Prod.mk.injEq]at hf;obtain⟨rfl,rfl⟩:=hf;simp only[qg]at hs;rcases hs with ⟨⟨a0,rfl,ha0⟩,rfl,_⟩|⟨B,off,cap,rfl,hcap,hrows,htok⟩
             . obtain rfl:=ha0.resolve_right (by simp);obtain⟨K',k1,k2,k3⟩:=grow [] U.T.length rowsx.length (U.T.length+1) (U.T++[some rowsx.length]) (by simp[qh]) (by simp) (by simp) (by simp)
                (fun u k' eu=>by
                  rw[qqZ]at eu;split at eu
                  . rename_i hu';exact .inr ⟨by omega,eu⟩
                  . rename_i hu';have:u-U.T.length=0:=by
                     rcases qrm (u-U.T.length) with h0|h0
                     . exact h0
                     . rw[qqC (by simp;omega)]at eu;cases eu
                    rw[this]at eu;simp at eu;exact .inl ⟨by omega,eu.symm⟩)
                (by simp) (fun u C hu' hC=>by obtain⟨k',hk'⟩:=h.chd u C hC;exact⟨k',by rw[qqq (qqc.1 hk').1];exact hk'⟩) (by simp) (by rw[h.nch];omega) (by omega) (fun hlt=>by rw[h.nch]at hlt;omega) 0
               have hr:=run_append_nil (P:=P) w t ty e inf2 z2 hu hi2 hz2 ⟨B2,off2,none⟩ rowsx.length cap2 news n2 n3 hnpos (by omega) (by omega);simp only[qq0,qrL,qqw,Array.empty_append]at k2 k3;exact⟨_,_,K',hr,k1,k2,k3⟩
             . simp only[kj]at htok
           . -- no spare room
             simp only[Option.some.injEq,Prod.mk.injEq]at hf;obtain⟨rfl,rfl⟩:=hf;have hT1:∀ u k',(U.T++[some rowsx.length])[u]?=some (some k')->(u=U.T.length/\k'=rowsx.length)\/(u≠U.T.length/\U.T[u]?=some (some k')):=fun u k' eu=>by
              rw[qqZ]at eu;split at eu
              . rename_i hu';exact .inr ⟨by omega,eu⟩
              . rename_i hu';have:u-U.T.length=0:=by
                 rcases qrm (u-U.T.length) with h0|h0
                 . exact h0
                 . rw[qqC (by simp;omega)]at eu;cases eu
                rw[this]at eu;simp at eu;exact .inl ⟨by omega,eu.symm⟩
             have hT2:∀ u C,u≠U.T.length->K.ch u=some C->∃ k',(U.T++[some rowsx.length])[u]?=some (some k'):=fun u C hu' hC=>by
              obtain⟨k',hk'⟩:=h.chd u C hC;exact⟨k',by rw[qqq (qqc.1 hk').1];exact hk'⟩
             simp only[qg]at hs;rcases hs with ⟨⟨a0,rfl,ha0⟩,rfl,_⟩|⟨B,off,cap,rfl,hcap,hrows,htok⟩
             . obtain rfl:=ha0.resolve_right (by simp);obtain⟨K',k1,k2,k3⟩:=grow [] U.T.length rowsx.length (U.T.length+1) (U.T++[some rowsx.length]) (by simp[qh]) (by simp) (by simp) (by simp) hT1
                (by simp) hT2 (by simp) (by rw[h.nch];omega) (by omega) (fun hlt=>by rw[h.nch]at hlt;omega) 0
               have hr:=run_append_nil (P:=P) w t ty e inf2 z2 hu hi2 hz2 ⟨B2,off2,none⟩ rowsx.length cap2 news n2 n3 hnpos (by omega) (by omega);simp only[qq0,qrL,qqw,Array.empty_append]at k2 k3;exact⟨_,_,K',hr,k1,k2,k3⟩
             . simp only[kj]at htok;subst htok;have hrl1:∀ r∈rows,r.length=sz:=WZ hrows;obtain⟨olds,o1,o2,o3,o4,o5⟩:=k0 h hrows;have hszr:sz=inf2.size\/rows=[]:=hc1;have o2':olds.length=rows.length*inf2.size:=by
                rcases hszr with rfl|hr0
                . exact o2
                . subst hr0;simpa using o2
               have hrl1':∀ r∈rows,r.length=inf2.size:=by
                rcases hszr with rfl|hr0
                . exact hrl1
                . subst hr0;simp
               obtain⟨K',k1,k2,k3⟩:=grow olds U.T.length rowsx.length (U.T.length+1) (U.T++[some rowsx.length]) o1 o2' hrl1' o4 hT1
                (by simp) hT2 (by simp) (by rw[h.nch];omega) (by omega) (fun hlt=>by rw[h.nch]at hlt;omega) rows.length
               have hr:=run_append_grow (P:=P) w t ty e inf2 z2 hu hi2 hz2 ⟨B,off,none⟩ rows.length rows.length olds o2' o3 ⟨B2,off2,none⟩ rowsx.length cap2 news n2 n3 (by omega) (by omega) (growslice_fits (by omega) hb48);exact⟨_,_,K',hr,k1,k2,k3⟩
           . -- a row with a free end
             rename_i ct ck;split at hf
             . rename_i hct;obtain⟨hszr,hct⟩:=hct;subst hszr;simp only[Option.some.injEq,Prod.mk.injEq]at hf;obtain⟨rfl,rfl⟩:=hf;simp only[qg]at hs;rcases hs with ⟨_,_,hpl⟩|⟨B,off,cap,rfl,hcap,hrows,htok⟩
               . exact hpl.elim
               . obtain⟨ht1,ht2⟩:=htok;obtain⟨C,c1,c2,c3,c4,⟨cs,el,c5,c6⟩,c7,c8⟩:=h.ch ct ck hct;obtain⟨_,t2⟩:=ht2 C c1;obtain⟨t3,t4,t5,t6,t7⟩:=t2 c2.symm;have hctl:ct<U.T.length:=(qqc.1 hct).1;subst t5;have hrl1:∀ r∈rows,r.length=inf2.size:=WZ hrows;obtain⟨olds,o1,o2,o3,o4,o5⟩:=k0 h hrows;by_cases hroom:rows.length+rowsx.length<=cap
                 . have hB:C.B=B:=t3;subst hB;have hmul:rows.length*inf2.size+rowsx.length*inf2.size<=cap*inf2.size:=(by rw[<- qra];exact qrj _ hroom);have hr:=Jk (P:=P) (w:=w) t ty e el inf2 hu hi2 C.B rows.length cap cs c5 ⟨B2,off2,none⟩ rowsx.length cap2 news n2 n3 n5 hroom (by rw[n2,c6];omega);have hcsl:cs.toList.length=C.cap:=(by simpa using c6);have hmin:min (rows.length*inf2.size) cs.toList.length=rows.length*inf2.size:=(by omega);obtain⟨w1,w2⟩:=h.chainIn c1 (by rw[hct]) news (cs.toList.take (rows.length*inf2.size)++news++cs.toList.drop (rows.length*inf2.size+news.length)).toArray el (ck+rowsx.length) (by omega)
                    (w':=w.setRow C.B (cs.toList.take (rows.length*inf2.size)++news++cs.toList.drop (rows.length*inf2.size+news.length)).toArray) rfl rfl rfl (by simp[World.setRow]) (fun j hj=>setRow_other w C.B j _ hj)
                    (setRow_heap w C.B cs _ el _ c5) (by simp only[qs1,qqg,qqP,qsG,hmin,n2];omega) (by rw[n2];omega)
                    (fun j v ev=>by
                      have hjl:=(qqc.1 ev).1;rw[qr4,qqI,qql (by simp only[qqP,hmin];omega),qqq (by simp only[qqP,hmin];omega)];simp only[qqP,hmin,<- t6];rw[show rows.length*inf2.size+j-rows.length*inf2.size=j by omega];exact ev)
                    (fun cs2 el2 e2 j hj=>by
                      rw[c5]at e2;cases e2;rw[qr4,qqI,qqq (by simp only[qqP,hmin];omega),qq2,if_pos (by omega)];simp)
                   refine⟨_,_,_,hr,w2,w1,?_⟩;have hro:∀ (j:Nat) (u:Value),(olds++news)[j]?=some u->((K.addRo C.B C.fin news).setCh ct ⟨ck+rowsx.length,C.B,C.fin+news.length,C.cap,C.sz⟩ K.nch).ro C.B j=some u:=by
                    intro j u eu;show (if C.B=C.B/\C.fin<=j/\j<C.fin+news.length then news[j-C.fin]? else K.ro C.B j)=some u;rw[qqZ]at eu;split at eu
                    . rename_i hjl;rw[if_neg (by omega)];have hcol:=qJ.flat C.B inf2.size rows 0 hrows;obtain⟨a0,ha0⟩:∃ a0,rows.flatten[j]?=some a0:=⟨_,qqe (by rw[<- o1.length];exact hjl)⟩;obtain⟨v0,e0,_⟩:=ql.get C.B _ 0 hcol.1 j a0 ha0;have hc0:=h.ro _ _ _ e0;have hu0:=o3 j u eu;rw[ja]at hu0;rw[hu0]at hc0;rw[hc0];simpa using e0
                    . rename_i hjl;have hjl2:=(qqc.1 eu).1;rw[if_pos ⟨rfl,by omega,by omega⟩,<- t6,<- o2];exact eu
                   have hvl:(olds++news).length=(rows++rowsx).length*inf2.size:=(by simp[o2,n2,qra]);have:=qbh (K:=K) (B':=C.B) (sz:=inf2.size) (k:=ck+rowsx.length) (t:=ct) (n:=0) (newCap:=cap) (rows:=rows++rowsx) (vs:=olds++news)
                    (by rw[qrC];exact o1.append n1) hvl (fun r hr=>by rcases qqA.1 hr with hr | hr;exact hrl1 r hr;exact rl2 r hr) (by rw[qrC,qrM,o4,n4];rfl)
                    w2 hro (by simpa using hroom) (by show ct<K.nch;rw[h.nch];exact hctl) ⟨ck+rowsx.length,C.B,C.fin+news.length,C.cap,C.sz⟩ (if_pos rfl) rfl rfl t4
                    (by simp only[qqg,o2,t6]) (by simp only[<- t7])
                   simpa using this
                 . obtain⟨K',k1,k2,k3⟩:=grow olds ct (ck+rowsx.length) U.T.length (U.T.set ct (some (ck+rowsx.length))) o1 o2 hrl1 o4
                    (fun u k' eu=>by
                      by_cases hu':u=ct
                      . subst hu';simp[hctl]at eu;exact .inl ⟨rfl,eu.symm⟩
                      . rw[qqf (Ne.symm hu')]at eu;exact .inr ⟨hu',eu⟩)
                    (by simp[hctl]) (fun u C' hu' hC'=>by obtain⟨k',hk'⟩:=h.chd u C' hC';exact⟨k',by rw[qqf (Ne.symm hu')];exact hk'⟩) (by simp) (by rw[h.nch];omega) hctl
                    (fun _=>⟨C,c1,by omega⟩) cap
                   have hr:=run_append_grow (P:=P) w t ty e inf2 z2 hu hi2 hz2 ⟨B,0,none⟩ rows.length cap olds o2 o3 ⟨B2,off2,none⟩ rowsx.length cap2 news n2 n3 (by omega) (by omega) (growslice_fits (by omega) hb48);exact⟨_,_,K',hr,k1,k2,k3⟩
             . cases hf
       . cases hf
     . cases hf
   . cases hf
 . cases hf
end
end
section
section
variable {P:Program}{G:Nat->AV}{w0:World}{ro0:Nat->Nat->Option Value}{K:Kn}{U:St}{w w':World}
theorem KE {n:Int}(h0:0<=n)(h1:n<=549755813888):IntKind.i64.wrap n=n:=by
 have:n % 18446744073709551616=n:=Int.emod_eq_of_lt h0 (by omega);simp only[IntKind.wrap,IntKind.bits,IntKind.signed,qrg];simp only[show ((2:Int) ^ (64:Nat))=18446744073709551616 from rfl,show ((2:Int) ^ ((64:Nat)-1))=9223372036854775808 from rfl,this];rw[if_neg (by simp;omega)]
theorem T_push {T:List (Option Nat)}{n:Nat}(u k':Nat)(eu:(T++[some n])[u]?=some (some k')):(u=T.length/\k'=n)\/(u≠T.length/\T[u]?=some (some k')):=by
 rw[qqZ]at eu;split at eu
 . rename_i hu';exact .inr ⟨by omega,eu⟩
 . rename_i hu';have:u-T.length=0:=by
    rcases qrm (u-T.length) with h0|h0
    . exact h0
    . rw[qqC (by simp;omega)]at eu;cases eu
   rw[this]at eu;simp at eu;exact .inl ⟨by omega,eu.symm⟩
theorem vC (h:WRel G w0 ro0 K U w){t:Nat}{l c v:AV}{l' c':Value}(hl:qg K l l')(hc:qg K c c'){U':St}(hf:qx (Dof P) U t l c=some (v,U')) :
 Ran P G w0 ro0 K w (Instr.makeSlice t l' c') v U':=by
 unfold qx at hf;split at hf
 . rename_i i ln cn hD hln hcn;obtain⟨inf,d,z,hi,hu,_,rfl⟩:=qs hD;obtain⟨k1,rfl⟩:=j5 hln hl;obtain⟨k2,rfl⟩:=j5 hcn hc;simp only at hf;split at hf
   . rename_i e hd;have hd':=wZ hd;subst hd';split at hf
     . rename_i j hj;obtain⟨inf2,d2,z2,hi2,hu2,hz2,rfl⟩:=qs hj;simp only at hf;split at hf
       . rename_i hcond;obtain⟨b1,b2,b3,b4,b5,b6,b7⟩:=hcond;have hzs:z2.cells.size=inf2.size:=(by simpa using b6);have hwl:IntKind.i64.wrap ln=ln:=KE b1 (by omega);have hwc:IntKind.i64.wrap cn=cn:=KE (by omega) b3;have hcb:cn.toNat*inf2.bytes<=140737488355328:=by
          calc cn.toNat*inf2.bytes<=549755813888*256:=qse (by omega) b4
           _<=140737488355328:=by omega
         have hcb':(inf2.bytes:Int)*cn<=140737488355328:=by
          have:((cn.toNat*inf2.bytes:Nat):Int)<=((140737488355328:Nat):Int):=Int.ofNat_le.2 hcb;rw[qsw,Int.toNat_of_nonneg (by omega),Int.mul_comm]at this;exact this
         have hlarge:¬ (281474976710656<(inf2.bytes:Int)*cn):=(by omega);have hn0:∀ n:Nat,n*inf2.size=0↔n=0:=by
          intro n;rw[Nat.mul_eq_zero];omega
         have hrun:(Instr.makeSlice t (.int k1 ln) (.int k2 cn)).run P w=.ok (.slice (some ⟨w.heap.size,0,none⟩) ln.toNat cn.toNat)
          (w.alloc (.cells ((Array.range (cn.toNat*inf2.size)).map (fun j=>(if cn.toNat*inf2.size=0 then #[] else z2.cells)[j % (if cn.toNat*inf2.size=0 then #[] else z2.cells).size]!)) e)):=by
          simp only[Instr.makeSlice,Sem.run_bind,run_underlying hu,Result.andThen_ok];have hnot:¬ (cn<0):=(by omega);have hnl:¬ (ln<0):=(by omega);have hnc:¬ (ln > cn):=(by omega);have hroom:¬ (cn.toNat*inf2.bytes > roomBytes):=(by simp only[roomBytes];omega);by_cases hz:cn.toNat*inf2.size=0
          . simp[asInt,asIntOf,typeInfo,hi2,hwl,hwc,hlarge,hnot,hnl,hnc,askRoom,sizeOf,zeroValue,hz2,newRow,hz]
          . simp[asInt,asIntOf,typeInfo,hi2,hwl,hwc,hlarge,hnot,hnl,hnc,askRoom,sizeOf,zeroValue,hz2,newRow,hz]
         split at hf
         . rename_i hl0;subst hl0;simp only[Option.some.injEq,Prod.mk.injEq]at hf;obtain⟨rfl,rfl⟩:=hf;obtain⟨w1,w2⟩:=h.chainNew [] ((Array.range (cn.toNat*inf2.size)).map (fun j=>(if cn.toNat*inf2.size=0 then #[] else z2.cells)[j % (if cn.toNat*inf2.size=0 then #[] else z2.cells).size]!)) e (by simp)
            U.T.length 0 (U.T.length+1) (U.T++[some 0]) T_push (by simp)
            (fun u C hu' hC=>by obtain⟨k',hk'⟩:=h.chd u C hC;exact⟨k',by rw[qqq (qqc.1 hk').1];exact hk'⟩) (by simp) (by rw[h.nch];omega)
            (fun hlt=>by rw[h.nch]at hlt;omega) inf2.size (by simp)
           refine⟨_,_,_,hrun,w2,w1,?_⟩;simp only[qg];refine .inr ⟨w.heap.size,0,cn.toNat,rfl,by simp,by simp[qJ],?_⟩;refine⟨by show U.T.length<U.T.length+1;omega,fun C hC=>?_⟩;have:C=⟨0,w.heap.size,0,cn.toNat*inf2.size,inf2.size⟩:=by
            simp[Kn.setCh]at hC;exact hC.symm
           subst this;exact⟨qqn _,fun _=>⟨rfl,rfl,rfl,by simp,rfl⟩⟩
         . rename_i hl0;simp only[Option.some.injEq,Prod.mk.injEq]at hf;obtain⟨rfl,rfl⟩:=hf;have hcpos:¬ cn.toNat*inf2.size=0:=(by rw[hn0];omega);rw[if_neg hcpos]at hrun;have hz0:=QF (K:=K) (z:=z2) (n:=cn.toNat) (by omega);rw[hzs]at hz0;refine⟨_,_,K.addM U.H.length w.heap.size (jd _),hrun,Kn.le_addM h _ _,h.push ?_,?_⟩
           . refine⟨_,e,rfl,?_,?_,?_⟩
             . rw[qqo];intro x hx;obtain⟨l,hl1,hl2⟩:=qqM.1 hx;rw[(qrH.1 hl1).2]at hl2;rw[qqo]at b7;exact b7 x hl2
             . have:ln.toNat*inf2.size<=cn.toNat*inf2.size:=qrj _ (by omega);simp[hzs];exact this
             . intro j a ea;have hjl:j<ln.toNat*inf2.size:=by
                have:=(qqc.1 ea).1;simpa[hzs] using this
               have hle:ln.toNat*inf2.size<=cn.toNat*inf2.size:=qrj _ (by omega);have hzl:(z2.cells.toList.map ofAtom).length=inf2.size:=(by simp[hzs]);rw[jB _ _ _ (by rw[hzl];exact hjl)]at ea;have e2:((List.replicate cn.toNat (z2.cells.toList.map ofAtom)).flatten)[j]?=some a:=by
                rw[jB _ _ _ (by rw[hzl];omega)];exact ea
               obtain⟨v,e3,e4⟩:=hz0.get j a e2;refine⟨v,?_,e4⟩;rw[<- Array.getElem?_toList,hzs];exact e3
           . simp only[qg];exact⟨w.heap.size,cn.toNat,by simp[Kn.addM],rfl,by omega,by omega,by simp[Kn.addM,jd,hzs]⟩
       . cases hf
     . cases hf
   . cases hf
 . cases hf
theorem Vg (h:WRel G w0 ro0 K U w)(t:Nat):Ran P G w0 ro0 K w (Instr.makeMap t none) (.map U.H.length) (U.push (.map [] 0)):=by
 refine⟨.map (some w.heap.size),w.alloc (.map #[] 0),K.addM U.H.length w.heap.size (jd _),?_,Kn.le_addM h _ _,h.push ?_,?_⟩
 . simp[Instr.makeMap]
 . exact⟨#[],rfl,rfl,by simp⟩
 . simp only[qg];exact⟨w.heap.size,by simp[Kn.addM],rfl⟩
theorem QY {k:Nat}{v:AV}(h:zw (Dof P) k v=true):(∃ kd kk n,P.underlying k=some (.int kd)/\v=.int kk n)\/(∃ s,P.underlying k=some .string/\v=.str s)\/∃ c tds,v=.agg c/\YX (Dof P) k=some tds/\zR tds c=true:=by
 unfold zw at h;split at h
 . rename_i i hD;obtain⟨inf,d,z,hi,hu,_,rfl⟩:=qs hD;simp only at h;split at h
   . rename_i kd kk n hd;exact .inl ⟨kd,kk,n,by rw[hu,ZZ hd],rfl⟩
   . rename_i s hd;exact .inr (.inl ⟨s,by rw[hu,vo hd],rfl⟩)
   . rename_i c hd;obtain⟨tds,h1,h2⟩:=(Option.any_eq_true _ _).1 h;exact .inr (.inr ⟨c,tds,rfl,h1,h2⟩)
   . cases h
 . cases h
theorem vM {b : Bool} {m : Nat} {cs : Array Value} {K : Kn} : ∀ (fs : List Field) (k : Nat) (as : List AV), (∀ f ∈ fs, yM (Dof P) f.type = true ∧ f.name ≠ "_") → fs.map (·.offset) = List.range' k fs.length → as.length = fs.length → qh K as (cs.toList.drop k) →
 (forIn fs PUnit.unit (fun f (_:PUnit)=>
   if f.name ≠ "_" then do
    let x <- part f.type cs f.offset
    Instr.checkKey b (m+1) f.type x
    pure (ForInStep.yield PUnit.unit)
   else pure (ForInStep.yield PUnit.unit)):Sem PUnit).run P w=.ok PUnit.unit w
 | [],k,as,_,_,_,_=>by simp[pure]
 | f::fs,k,[],_,_,hl,_=>by simp at hl
 | f::fs,k,a::as,hf,ho,hl,hr=>by
  simp only[qqp,qqs,qrt,List.cons.injEq]at ho;obtain⟨ho1,ho2⟩:=ho;simp only[qh]at hr;obtain⟨v,vr,e1,hv,hvr⟩:=hr;have hx:cs[k]?=some v:=by
   have:=qq1 (xs:=cs.toList) (i:=k) (j:=0);rw[e1]at this;simpa using this.symm
  have hd:cs.toList.drop (k+1)=vr:=by
   rw[<- List.drop_drop,e1];rfl
  obtain⟨hp,hnm⟩:=hf f (by simp);obtain⟨inf,hi,hu⟩:=wC hp;have hagg:(isAgg f.type).run P w=.ok false w:=by
   rcases hu with hu|hu|⟨k,hu⟩<;>simp[isAgg,run_underlying hu]
  have ih:=vM (b:=b) (m:=m) (cs:=cs) (K:=K) fs (k+1) as (fun x hx=>hf x (by simp[hx])) ho2 (by simpa using hl) (hd▸hvr);have hck:(Instr.checkKey b (m+1) f.type v).run P w=.ok () w:=by
   rw[Instr.checkKey];rcases hu with hu|hu|⟨k,hu⟩<;>simp[run_underlying hu]
  have hpt:(part f.type cs k).run P w=.ok v w:=by simp[part,hagg,hx]
  rw[List.forIn_cons];simp only[ne_eq,hnm,not_false_eq_true,if_true,Sem.run_bind,ho1,hpt,Result.andThen_ok,hck];exact ih
theorem Jc {k:Nat}{v:AV}{v':Value}(h:zw (Dof P) k v=true)(hv:qg K v v')(b:Bool):(Instr.checkKey b 10000 k v').run P w=.ok () w:=by
 have e:Instr.checkKey b 10000 k v'=Instr.checkKey b (9998+1+1) k v':=rfl;rw[e,Instr.checkKey];generalize 9998=m;rcases QY h with ⟨kd,kk,n,hu,rfl⟩|⟨s,hu,rfl⟩|⟨c,tds,rfl,hfl,hfit⟩
 . simp only[qg]at hv;subst hv;simp[run_underlying hu]
 . simp only[qg]at hv;subst hv;simp[run_underlying hu]
 . simp only[qg]at hv;obtain⟨cs,rfl,hcs⟩:=hv;obtain⟨fields,hu,hst,rfl,hpl,hoff⟩:=ZC hfl;obtain⟨hl,hk⟩:=kF _ _ hfit;have:=vM (P:=P) (w:=w) (b:=b) (m:=m) (cs:=cs) (K:=K) fields.toList 0 c hpl (by rw[hoff,qrr];simp) (by simpa using hl) (by simpa using hcs);simp only[Sem.run_bind,run_underlying hu,Result.andThen_ok];rw[<- Array.forIn_toList];rw[this];rfl
theorem qco (a b:List UInt8):((⟨a.toArray⟩:ByteArray) == ⟨b.toArray⟩)=(a==b):=by
 rw[beq_toListBytes,yo,yo]
theorem Qx {k:Nat}{x:AV}{x':Value}(hk:(∃ kd kk n,P.underlying k=some (.int kd)/\x=.int kk n)\/∃ s,P.underlying k=some .string/\x=.str s)(hx:qg K x x'):∀ (es:List (AV×AV×Nat)) (es':List MapEntry) (i:Nat) (r:Option (Nat×AV)),es'.length=es.length ->
 (∀ (j:Nat) (k v:AV) (b:Nat),es[j]?=some (k,v,b)->∃ e:MapEntry,es'[j]?=some e/\qg K k e.key/\qg K v e.val/\e.born=b)->jy x es i=some r ->
 ∃ d r',P.underlying k=some d/\Instr.findNow d x' es' i=some r'/\(match r with
  | some (j,v)=>∃ v',r'=some (j,v')/\qg K v v'/\i<=j/\∃ e:MapEntry,es'[j-i]?=some e/\Instr.sameBits 10000 e.key x'=true
  | none=>r'=none)
 | [],[],i,r,_,_,hf=>by
  simp[jy]at hf;subst hf;rcases hk with ⟨kd,kk,n,hu,rfl⟩|⟨s,hu,rfl⟩
  . exact⟨_,none,hu,rfl,rfl⟩
  . exact⟨_,none,hu,rfl,rfl⟩
 | [],_::_,i,r,hl,_,hf=>by simp at hl
 | _::_,[],i,r,hl,_,hf=>by simp at hl
 | (k1,v1,b1)::es,e1::es',i,r,hl,he,hf=>by
  obtain⟨e0,h1,h2,h3,h4⟩:=he 0 k1 v1 b1 (by simp);simp at h1;subst h1;have ih:=Qx hk hx es es' (i+1);simp only[jy]at hf;have same:∀ p,Qe x k1=some p->∀ d,P.underlying k=some d->Instr.sameNow d x' e1.key=some p/\(p=true->Instr.sameBits 10000 e1.key x'=true):=by
   intro p hp d hd;rcases hk with ⟨kd,kk,n,hu,rfl⟩|⟨s,hu,rfl⟩
   . rw[hu]at hd;cases hd;cases k1<;>simp only[Qe]at hp<;>try (cases hp;done)
     split at hp
     . rename_i hkk;subst hkk;simp only[Option.some.injEq]at hp;simp only[qg]at hx h2;rw[hx,h2];refine⟨by simp[Instr.sameNow,hp],fun ht=>?_⟩;rw[ht]at hp;have:n=_:=eq_of_beq hp;simp[Instr.sameBits,this]
     . cases hp
   . rw[hu]at hd;cases hd;cases k1<;>simp only[Qe]at hp<;>try (cases hp;done)
     simp only[Option.some.injEq]at hp;simp only[qg]at hx h2;rw[hx,h2];refine⟨by simp[Instr.sameNow,qco,hp],fun ht=>?_⟩;rw[ht]at hp;have:s=_:=eq_of_beq hp;simp[Instr.sameBits,qco,this]
  split at hf
  . rename_i hke;simp only[Option.some.injEq]at hf;subst hf;rcases hk with ⟨kd,kk,n,hu,_⟩|⟨s,hu,_⟩
    all_goals
     obtain⟨s1,s2⟩:=same true hke _ hu;refine⟨_,some (i,e1.val),hu,by simp only[Instr.findNow,s1],e1.val,rfl,h3,qqn _,e1,by simp,s2 rfl⟩
  . rename_i hke;obtain⟨d,r',g1,g2,g3⟩:=ih r (by simpa using hl) (fun j k v b e=>by simpa using he (j+1) k v b (by simpa using e)) hf;obtain⟨s1,_⟩:=same false hke d g1;refine⟨d,r',g1,by simp only[Instr.findNow,s1];exact g2,?_⟩
    cases r with
    | none=>exact g3
    | some jv=>
     obtain⟨j,v⟩:=jv;obtain⟨v',a1,a2,a3,e,a4,a5⟩:=g3;refine⟨v',a1,a2,by omega,e,?_,a5⟩;rw[show j-i=(j-(i+1))+1 by omega];simpa using a4
  . cases hf
theorem Jd:∀ {a b:List AV},zX a b=some true->a=b
 | [],[],_=>rfl
 | [],_::_,h=>by simp[zX]at h
 | _::_,[],h=>by simp[zX]at h
 | x::a,y::b,h=>by
  simp only[zX]at h;split at h
  . rename_i p q hp hq;simp only[Option.some.injEq,qqi]at h;rw[h.1]at hp;rw[h.2]at hq;rw[Jd hq];cases x<;>cases y<;>simp only[ka]at hp<;>first | (cases hp;done) | skip
    . simp at hp;rw[hp]
    . split at hp
      . rename_i e;subst e;simp at hp;rw[hp]
      . cases hp
    . simp at hp;rw[hp]
  . cases h
theorem Qi {m:Nat}:∀ {tds:List TD} {a:List AV} {x y:List Value},zR tds a=true->qh K a x->qh K a y->x.length=y.length/\((x.zip y).all fun (u,v)=>Instr.sameBits m u v)=true
 | [],[],_,_,_,hx,hy=>by simp only[qh]at hx hy;subst hx hy;simp
 | [],_::_,_,_,h,_,_=>by simp[zR]at h
 | td::_,[],_,_,h,_,_=>by cases td<;>simp[zR]at h
 | td::tds,c::a,x,y,h,hx,hy=>by
  simp only[qh]at hx hy;obtain⟨u,x',rfl,hu,hx⟩:=hx;obtain⟨v,y',rfl,hv,hy⟩:=hy;have h2:zR tds a=true/\Instr.sameBits m u v=true:=by
   cases td<;>cases c<;>simp[zR]at h<;>simp only[qg]at hu hv<;>subst hu hv<;>exact⟨h,by simp[Instr.sameBits,qco]⟩
  obtain⟨i1,i2⟩:=Qi (m:=m) h2.1 hx hy;exact⟨by simp[i1],by simp only[qtj,qrR,h2.2,qrg];exact i2⟩
theorem YZ {k:Nat}{c:List AV}{tds:List TD}{x':Value}(hfl:YX (Dof P) k=some tds)(hfit:zR tds c=true)(hx:qg K (.agg c) x'):∀ (es:List (AV×AV×Nat)) (es':List MapEntry) (i:Nat) (r:Option (Nat×AV)),es'.length=es.length ->
 (∀ (j:Nat) (k v:AV) (b:Nat),es[j]?=some (k,v,b)->∃ e:MapEntry,es'[j]?=some e/\qg K k e.key/\qg K v e.val/\e.born=b)->jy (.agg c) es i=some r ->
 ∃ r',(Instr.findAsking k x' es' i).run P w=.ok r' w/\(match r with
  | some (j,v)=>∃ v',r'=some (j,v')/\qg K v v'/\i<=j/\∃ e:MapEntry,es'[j-i]?=some e/\Instr.sameBits 10000 e.key x'=true
  | none=>r'=none)
 | [],[],i,r,_,_,hf=>by
  simp[jy]at hf;subst hf;exact⟨none,rfl,rfl⟩
 | [],_::_,i,r,hl,_,hf=>by simp at hl
 | _::_,[],i,r,hl,_,hf=>by simp at hl
 | (k1,v1,b1)::es,e1::es',i,r,hl,he,hf=>by
  obtain⟨e0,h1,h2,h3,h4⟩:=he 0 k1 v1 b1 (by simp);simp at h1;subst h1;have ih:=YZ hfl hfit hx es es' (i+1);simp only[jy]at hf;have same:∀ p,Qe (.agg c) k1=some p->(Op.equal k x' e1.key).run P w=.ok p w/\(p=true->Instr.sameBits 10000 e1.key x'=true):=by
   intro p hp;cases k1<;>simp only[Qe]at hp<;>try (cases hp;done)
   rename_i d;simp only[qg]at hx h2;obtain⟨xs,rfl,hxs⟩:=hx;obtain⟨ys,hy,hys⟩:=h2;rw[hy];refine⟨?_,fun ht=>?_⟩
   . refine (Y6 (t:=k) (a:=c) (b:=d) ?_ hxs hys).2;simp only[Vw,hfl,if_pos hfit,hp]
   . subst ht;have:=Jd hp;subst this;obtain⟨g1,g2⟩:=Qi (m:=9999) hfit hys hxs;show (ys.size==xs.size&&_)=true;simp only[qrc]at g1;rw[g1,beq_self_eq_true,qrg];exact g2
  split at hf
  . rename_i hke;simp only[Option.some.injEq]at hf;subst hf;obtain⟨s1,s2⟩:=same true hke;exact⟨some (i,e1.val),by simp[Instr.findAsking,s1],e1.val,rfl,h3,qqn _,e1,by simp,s2 rfl⟩
  . rename_i hke;obtain⟨r',g2,g3⟩:=ih r (by simpa using hl) (fun j k v b e=>by simpa using he (j+1) k v b (by simpa using e)) hf;obtain⟨s1,_⟩:=same false hke;refine⟨r',by simp[Instr.findAsking,s1];exact g2,?_⟩
    cases r with
    | none=>exact g3
    | some jv=>
     obtain⟨j,v⟩:=jv;obtain⟨v',a1,a2,a3,e,a4,a5⟩:=g3;refine⟨v',a1,a2,by omega,e,?_,a5⟩;rw[show j-i=(j-(i+1))+1 by omega];simpa using a4
  . cases hf
theorem wJ {k:Nat}{x:AV}{x':Value}(hk:zw (Dof P) k x=true)(hx:qg K x x')(es:List (AV×AV×Nat))(es':List MapEntry)(r:Option (Nat×AV))(hl:es'.length=es.length)
 (he:∀ (j:Nat) (k v:AV) (b:Nat),es[j]?=some (k,v,b)->∃ e:MapEntry,es'[j]?=some e/\qg K k e.key/\qg K v e.val/\e.born=b) (hf:jy x es 0=some r) :
 ∃ r',(Instr.findKey k x' es').run P w=.ok r' w/\(match r with
  | some (j,v)=>∃ v',r'=some (j,v')/\qg K v v'/\∃ e:MapEntry,es'[j]?=some e/\Instr.sameBits 10000 e.key x'=true
  | none=>r'=none):=by
 rcases QY hk with h|h|⟨c,tds,rfl,hfl,hfit⟩
 . obtain⟨d,r',g1,g2,g3⟩:=Qx (.inl h) hx es es' 0 r hl he hf;refine⟨r',by simp only[Instr.findKey,Sem.run_bind,run_underlying g1,Result.andThen_ok,g2];rfl,?_⟩
   cases r with
   | none=>exact g3
   | some jv=>obtain⟨v',a1,a2,_,e,a4,a5⟩:=g3;exact⟨v',a1,a2,e,by simpa using a4,a5⟩
 . obtain⟨d,r',g1,g2,g3⟩:=Qx (.inr h) hx es es' 0 r hl he hf;refine⟨r',by simp only[Instr.findKey,Sem.run_bind,run_underlying g1,Result.andThen_ok,g2];rfl,?_⟩
   cases r with
   | none=>exact g3
   | some jv=>obtain⟨v',a1,a2,_,e,a4,a5⟩:=g3;exact⟨v',a1,a2,e,by simpa using a4,a5⟩
 . obtain⟨r',g2,g3⟩:=YZ (w:=w) hfl hfit hx es es' 0 r hl he hf;obtain⟨fields,hu,_⟩:=ZC hfl;refine⟨r',?_,?_⟩
   . simp only[Instr.findKey,Sem.run_bind,run_underlying hu,Result.andThen_ok]
     cases es' with
     | nil=>simpa[Instr.findNow,Instr.findAsking] using g2
     | cons e es'=>
      have:Instr.findNow (.struct fields) x' (e::es') 0=none:=by
       simp only[qg]at hx;obtain⟨xs,rfl,_⟩:=hx;simp[Instr.findNow,Instr.sameNow]
      rw[this];exact g2
   . cases r with
     | none=>exact g3
     | some jv=>obtain⟨v',a1,a2,_,e,a4,a5⟩:=g3;exact⟨v',a1,a2,e,by simpa using a4,a5⟩
theorem qa3 (h:WRel G w0 ro0 K U w){t:Nat}{m k v:AV}{m' k':Value}(hm:qg K m m')(hk:qg K k k'){ok:Bool}(hf:zm (Dof P) U t m k ok=some v) :
 ∃ v',(Instr.lookup t m' k' ok).run P w=.ok v' w/\qg K v v':=by
 unfold zm at hf;split at hf
 . rename_i i hD;obtain⟨inf,d,z,hi,hu,_,rfl⟩:=qs hD;simp only at hf;split at hf
   . rename_i kt et hd;have:=J7 hd;subst this;split at hf
     . rename_i hko;split at hf
       . rename_i es hes
         -- the entries,as they lie
         have hent:∃ es':Array MapEntry,((m'=.map none/\es' = #[])\/∃ B clock,m'=.map (some B)/\(getObj B).run P w=.ok (.map es' clock) w)/\es'.toList.length=es.length /\
          ∀ (j:Nat) (k v:AV) (b:Nat),es[j]?=some (k,v,b)->∃ e:MapEntry,es'.toList[j]?=some e/\qg K k e.key/\qg K v e.val/\e.born=b:=by
          split at hes
          . simp only[Option.some.injEq]at hes;subst hes;simp only[qg]at hm;subst hm;exact⟨#[],.inl ⟨rfl,rfl⟩,rfl,by simp⟩
          . rename_i b;split at hes
            . rename_i es0 clock hb;simp only[Option.some.injEq]at hes;subst hes;simp only[qg]at hm;obtain⟨B,hm1,rfl⟩:=hm;obtain⟨B',h1,_,_,⟨es',h4,h5,h6⟩,_⟩:=h.blk b _ hb;rw[hm1]at h1;cases h1;exact⟨es',.inr ⟨B,clock,rfl,by simp[getObj,Sem.run,h4]⟩,by simpa using h5,fun j k v b e=>by simpa using h6 j k v b e⟩
            . cases hes
          . cases hes
         obtain⟨es',e1,e2,e3⟩:=hent;have hck:=fun b=>Jc (P:=P) (w:=w) hko hk b
         split at hf
         . rename_i idx v0 hfa;simp only[Option.some.injEq]at hf;subst hf;obtain⟨r',g2,v',rfl,g4,_⟩:=wJ (w:=w) hko hk es es'.toList _ e2 e3 hfa;refine⟨if ok then .tuple #[v',.bool true] else v',?_,by split<;>simp[qg,qh,g4]⟩;rcases e1 with ⟨rfl,rfl⟩|⟨B,clock,rfl,e1⟩
           . simp only[Instr.lookup,Sem.run_bind,run_underlying hu,Result.andThen_ok];simp only[pure,Sem.run,Result.andThen_ok,hck,g2,Sem.run_bind]
           . simp only[Instr.lookup,Sem.run_bind,run_underlying hu,Result.andThen_ok,e1];simp only[pure,Sem.run,Result.andThen_ok,hck,g2,Sem.run_bind]
         . rename_i hfa;obtain⟨zv,hz,rfl⟩:=qqj.1 hf;obtain⟨r',g2,g3⟩:=wJ (w:=w) hko hk es es'.toList _ e2 e3 hfa;simp only at g3;subst g3;unfold WF at hz;split at hz
           . rename_i j hj;obtain⟨inf2,d2,z2,hi2,hu2,hz2,rfl⟩:=qs hj;simp only[Option.some.injEq]at hz;subst hz;have hzr:=qg.ofV K z2;refine⟨if ok then .tuple #[z2,.bool false] else z2,?_,by split<;>simp[qg,qh,hzr]⟩;rcases e1 with ⟨rfl,rfl⟩|⟨B,clock,rfl,e1⟩
             . simp only[Instr.lookup,Sem.run_bind,run_underlying hu,Result.andThen_ok];simp only[pure,Sem.run,Result.andThen_ok,hck,g2,Sem.run_bind];simp[zeroValue,typeInfo,hi2,hz2]
             . simp only[Instr.lookup,Sem.run_bind,run_underlying hu,Result.andThen_ok,e1];simp only[pure,Sem.run,Result.andThen_ok,hck,g2,Sem.run_bind];simp[zeroValue,typeInfo,hi2,hz2]
           . cases hz
         . cases hf
       . cases hf
     . cases hf
   . cases hf
 . cases hf
theorem vB (h:WRel G w0 ro0 K U w){t:Nat}{m k v:AV}{m' k' v':Value}(hm:qg K m m')(hk:qg K k k')(hv:qg K v v'){U':St}(hf:qZ (Dof P) U t m k v=some U') :
 ∃ w',(Instr.mapUpdate t m' k' v').run P w=.ok () w'/\WRel G w0 ro0 K U' w':=by
 unfold qZ at hf;split at hf
 . rename_i i hD;obtain⟨inf,d,z,hi,hu,_,rfl⟩:=qs hD;simp only at hf;split at hf
   . rename_i kt et hd;have:=J7 hd;subst this;split at hf
     . rename_i hko;split at hf
       . rename_i b;split at hf
         . rename_i es clock hb;simp only[qg]at hm;obtain⟨B,hm1,rfl⟩:=hm;obtain⟨B',h1,hB0,hBl,⟨es',h4,h5,h6⟩,_⟩:=h.blk b _ hb;rw[hm1]at h1;cases h1;have hbl:b<U.H.length:=(qqc.1 hb).1;have hck:=Jc (P:=P) (w:=w) hko hk false;have hset:∀ (o:Obj),(setObj B o).run P w=.ok () { w with heap:=w.heap.setIfInBounds B o }:=by
            intro o;simp[setObj,Sem.run,h4]
           have hkeep:∀ o:Obj,(∀ k,k≠B->({ w with heap:=w.heap.setIfInBounds B o }:World).heap[k]?=w.heap[k]?):=by
            intro o k hk;simp[qr7 (Ne.symm hk)]
           split at hf
           . rename_i idx v0 hfa;simp only[Option.some.injEq]at hf;subst hf;obtain⟨r',g2,v1,rfl,g4,e0,g5,g6⟩:=wJ (w:=w) hko hk es es'.toList _ (by simpa using h5) (fun j k v b e=>by simpa using h6 j k v b e) hfa;have ge:es'[idx]?=some e0:=(by simpa using g5);refine⟨{ w with heap:=w.heap.setIfInBounds B (.map (es'.modify idx fun e=>{ e with key:=k',val:=v' }) clock) },?_,?_⟩
             . simp only[Instr.mapUpdate,Sem.run_bind,run_underlying hu,Result.andThen_ok];simp[getObj,Sem.run,h4,hck,g2,Instr.keyThatStays,ge,g6,hset]
             . refine h.setBlk (B:=B) hbl hm1 rfl rfl rfl (by simp) (hkeep _) ?_ (by rw[hb];simp) (fun cs2 el2 fr2 e2=>by simp[hBl]at e2) (fun cs2 el2 fr2 e2=>by simp[hBl]at e2);refine⟨es'.modify idx fun e=>{ e with key:=k',val:=v' },by simp[hBl],by simp[h5],?_⟩;intro j k2 v2 b2 e2;rw[qrU]at e2
               cases hj:es[j]? with
               | none=>simp[hj]at e2
               | some kvb=>
                obtain⟨k3,v3,b3⟩:=kvb;obtain⟨e,a1,a2,a3,a4⟩:=h6 j k3 v3 b3 hj;rw[hj]at e2;rw[Array.getElem?_modify,a1];by_cases hji:idx=j
                . simp only[if_pos hji,Option.map_eq_map,qsO,Option.some.injEq,Prod.mk.injEq]at e2;obtain⟨rfl,rfl,rfl⟩:=e2;rw[if_pos hji];exact⟨_,rfl,hk,hv,a4⟩
                . simp only[if_neg hji,Option.map_eq_map,qsO,Option.some.injEq,Prod.mk.injEq]at e2;obtain⟨rfl,rfl,rfl⟩:=e2;rw[if_neg hji];exact⟨e,rfl,a2,a3,a4⟩
           . rename_i hfa;simp only[Option.some.injEq]at hf;subst hf;obtain⟨r',g2,g3⟩:=wJ (w:=w) hko hk es es'.toList _ (by simpa using h5) (fun j k v b e=>by simpa using h6 j k v b e) hfa;simp only at g3;subst g3;refine⟨{ w with heap:=w.heap.setIfInBounds B (.map (es'.push { key:=k',val:=v',born:=clock }) (clock+1)) },?_,?_⟩
             . simp only[Instr.mapUpdate,Sem.run_bind,run_underlying hu,Result.andThen_ok];simp[getObj,Sem.run,h4,hck,g2,hset]
             . refine h.setBlk (B:=B) hbl hm1 rfl rfl rfl (by simp) (hkeep _) ?_ (by rw[hb];simp) (fun cs2 el2 fr2 e2=>by simp[hBl]at e2) (fun cs2 el2 fr2 e2=>by simp[hBl]at e2);refine⟨es'.push { key:=k',val:=v',born:=clock },by simp[hBl],by simp[h5],?_⟩;intro j k2 v2 b2 e2;rw[qqZ]at e2;rw[Array.getElem?_push];split at e2
               . rename_i hj;rw[if_neg (by omega)];exact h6 j k2 v2 b2 e2
               . rename_i hj;have:j-es.length=0:=by
                  rcases qrm (j-es.length) with h0|h0
                  . exact h0
                  . rw[qqC (by simp;omega)]at e2;cases e2
                 rw[this]at e2;simp at e2;obtain⟨rfl,rfl,rfl⟩:=e2;rw[if_pos (by omega)];exact⟨_,rfl,hk,hv,rfl⟩
           . cases hf
         . cases hf
       . cases hf
     . cases hf
   . cases hf
 . cases hf
end
end
end Go.Abs
end
section
namespace Go.Abs
abbrev Nd:=Nat×Nat×Nat
def lvD (d:List Nd)(i:Nat):Nat:=match d[i]? with
 | some n=>n.1
 | none=>20
structure DagOk (d:List Nd):Prop where
 two:2<=d.length
 most:d.length<=8192
 n0:d[0]?=some (20,0,0)
 n1:d[1]?=some (20,1,1)
 node:∀ (i:Nat) (n:Nd),2<=i->d[i]?=some n->n.1<20/\n.2.1<i/\n.2.2<i/\n.2.1≠n.2.2/\n.1<lvD d n.2.1/\n.1<lvD d n.2.2
 nodup:d.Nodup
def evF (d:List Nd)(b:Nat->Bool):Nat->Nat->Bool
 | 0,i=>i==1
 | k+1,i=>match d[i]? with
  | some n=>if n.1<20 then evF d b k (if b n.1 then n.2.2 else n.2.1) else i==1
  | none=>false
def evD (d:List Nd)(b:Nat->Bool)(i:Nat):Bool:=evF d b 20 i
theorem qef {d:List Nd}(h:DagOk d)(i:Nat):lvD d i<=20:=by
 unfold lvD;split
 . rename_i n hn;by_cases h2:2<=i
   . exact Nat.le_of_lt (h.node i n h2 hn).1
   . have:i=0\/i=1:=by omega
     rcases this with rfl|rfl
     . rw[h.n0]at hn;cases hn;exact Nat.le_refl _
     . rw[h.n1]at hn;cases hn;exact Nat.le_refl _
 . exact Nat.le_refl _
theorem qfM {d:List Nd}(h:DagOk d):lvD d 0=20:=by unfold lvD;rw[h.n0]
theorem qfL {d:List Nd}(h:DagOk d):lvD d 1=20:=by unfold lvD;rw[h.n1]
theorem zJ {d:List Nd}{i:Nat}{n:Nd}(h:d[i]?=some n):lvD d i=n.1:=by unfold lvD;rw[h]
theorem qhS {d:List Nd}(h:DagOk d){i:Nat}(h2:2<=i)(hi:i<d.length):lvD d i<20:=by
 have:=List.getElem?_eq_getElem hi;rw[zJ this];exact (h.node i _ h2 this).1
theorem qm5 {d:List Nd}(h:DagOk d){i:Nat}(hi:i<d.length)(hl:lvD d i=20):i=0\/i=1:=by
 apply Classical.byContradiction;intro hn;have:=qhS h (i:=i) (by omega) hi;omega
theorem Qy {d:List Nd}(h:DagOk d)(b:Nat->Bool){i:Nat}(hi:i<2)(k:Nat):evF d b k i=(i==1):=by
 have hi:i=0\/i=1:=by omega
 cases k with
 | zero=>rfl
 | succ k=>
  rcases hi with rfl|rfl
  . simp[evF,h.n0]
  . simp[evF,h.n1]
theorem qlM {d:List Nd}(h:DagOk d)(b:Nat->Bool):∀ (k i:Nat),i<d.length->20<=lvD d i+k->∀ k',k<=k'->evF d b k' i=evF d b k i:=by
 intro k
 induction k with
 | zero=>
  intro i hi hl k' _;have:i=0\/i=1:=qm5 h hi (by have:=qef h i;omega);rw[Qy h b (by omega),Qy h b (by omega)]
 | succ k ih=>
  intro i hi hl k' hk;obtain⟨k',rfl⟩:∃ j,k'=j+1:=⟨k'-1,by omega⟩;by_cases h2:2<=i
  . have hn:=List.getElem?_eq_getElem hi;obtain⟨g1,g2,g3,g4,g5,g6⟩:=h.node i _ h2 hn;rw[zJ hn]at hl;simp only[evF,hn,g1,if_true];split
    . exact ih _ (by omega) (by omega) k' (by omega)
    . exact ih _ (by omega) (by omega) k' (by omega)
  . rw[Qy h b (by omega),Qy h b (by omega)]
theorem ZF {d:List Nd}(h:DagOk d)(b:Nat->Bool){i:Nat}(hi:i<2):evD d b i=(i==1):=Qy h b hi 20
theorem Ju {d:List Nd}(h:DagOk d)(b:Nat->Bool):evD d b 0=false:=ZF h b (by omega)
theorem qc0 {d:List Nd}(h:DagOk d)(b:Nat->Bool):evD d b 1=true:=ZF h b (by omega)
theorem vZ {d:List Nd}(h:DagOk d)(b:Nat->Bool){i:Nat}{n:Nd}(h2:2<=i)(hn:d[i]?=some n):evD d b i=evD d b (if b n.1 then n.2.2 else n.2.1):=by
 obtain⟨g1,g2,g3,g4,g5,g6⟩:=h.node i n h2 hn;have hi:=(List.getElem?_eq_some_iff.1 hn).1;show evF d b 20 i=evF d b 20 _;have e:evF d b 20 i=evF d b 19 (if b n.1 then n.2.2 else n.2.1):=by simp[evF,hn,g1]
 rw[e];exact (qlM h b 19 _ (by split<;>omega) (by split<;>omega) 20 (by omega)).symm
theorem Y3 {d:List Nd}(h:DagOk d){b c:Nat->Bool}:∀ (k i:Nat),i<d.length->(∀ l,lvD d i<=l->b l=c l)->evF d b k i=evF d c k i
 | 0,_,_,_=>rfl
 | k+1,i,hi,hl=>by
  by_cases h2:2<=i
  . have hn:=List.getElem?_eq_getElem hi;obtain⟨g1,g2,g3,g4,g5,g6⟩:=h.node i _ h2 hn;rw[zJ hn]at hl;simp only[evF,hn,g1,if_true];rw[hl _ (Nat.le_refl _)];split
    . exact Y3 h k _ (by omega) fun l h1=>hl l (by omega)
    . exact Y3 h k _ (by omega) fun l h1=>hl l (by omega)
  . rw[Qy h b (by omega),Qy h c (by omega)]
theorem Y4 {d:List Nd}(h:DagOk d){b c:Nat->Bool}{i:Nat}(hi:i<d.length)(hl:∀ l,lvD d i<=l->b l=c l):evD d b i=evD d c i:=Y3 h 20 i hi hl
theorem qpG {d:List Nd}(h:DagOk d):∀ (k i:Nat),i<d.length->i<=k->i≠0->∃ b,evD d b i=true:=by
 intro k
 induction k with
 | zero=>intro i hi hk h0;omega
 | succ k ih=>
  intro i hi hk h0;by_cases h2:2<=i
  . have hn:=List.getElem?_eq_getElem hi;obtain⟨g1,g2,g3,g4,g5,g6⟩:=h.node i _ h2 hn;have go:∀ (v:Bool) (j:Nat),j≠0->j<i->(d[i]).1<lvD d j->(if v then (d[i]).2.2 else (d[i]).2.1)=j->∃ b,evD d b i=true:=by
     intro v j hj hji hlv hv;obtain⟨b,hb⟩:=ih j (by omega) (by omega) hj;refine⟨fun l=>if l=(d[i]).1 then v else b l,?_⟩;rw[vZ h _ h2 hn];simp only[if_true];rw[hv,Y4 h (c:=b) (by omega) fun l hl=>if_neg (by omega)];exact hb
    by_cases hlo:(d[i]).2.1=0
    . exact go true (d[i]).2.2 (fun e=>g4 (by rw[hlo,e])) g3 g6 rfl
    . exact go false (d[i]).2.1 hlo g2 g5 rfl
  . have:i=1:=by omega
    subst this;exact⟨fun _=>false,qc0 h _⟩
def qW (d d':List Nd):Prop:=∃ x,d'=d++x
theorem qW.refl (d:List Nd):qW d d:=⟨[],by simp⟩
theorem qW.trans {a b c:List Nd}(h:qW a b)(g:qW b c):qW a c:=by
 obtain⟨x,rfl⟩:=h;obtain⟨y,rfl⟩:=g;exact⟨x++y,by simp⟩
theorem qW.at {d d':List Nd}(h:qW d d'){i:Nat}(hi:i<d.length):d'[i]?=d[i]? := by
 obtain⟨x,rfl⟩:=h;rw[List.getElem?_append_left hi]
theorem qW.len {d d':List Nd}(h:qW d d'):d.length<=d'.length:=by obtain⟨x,rfl⟩:=h;simp
theorem qW.lv {d d':List Nd}(h:qW d d'){i:Nat}(hi:i<d.length):lvD d' i=lvD d i:=by unfold lvD;rw[h.at hi]
theorem qW.evF {d d':List Nd}(hd:DagOk d)(h:qW d d')(b:Nat->Bool):∀ (k i:Nat),i<d.length->Go.Abs.evF d' b k i=Go.Abs.evF d b k i
 | 0,_,_=>rfl
 | k+1,i,hi=>by
  have hn:=List.getElem?_eq_getElem hi;have hn':=(h.at hi).trans hn;simp only[Go.Abs.evF,hn,hn'];by_cases h2:2<=i
  . obtain⟨g1,g2,g3,g4,g5,g6⟩:=hd.node i _ h2 hn;simp only[g1,if_true];split
    . exact qW.evF hd h b k _ (by omega)
    . exact qW.evF hd h b k _ (by omega)
  . have:i=0\/i=1:=by omega
    rcases this with rfl|rfl
    . have:=hd.n0;rw[hn]at this;rw[Option.some.inj this];rfl
    . have:=hd.n1;rw[hn]at this;rw[Option.some.inj this];rfl
theorem qW.ev {d d':List Nd}(hd:DagOk d)(h:qW d d')(b:Nat->Bool){i:Nat}(hi:i<d.length):evD d' b i=evD d b i:=qW.evF hd h b 20 i hi
theorem qlZ {d:List Nd}(h:DagOk d){n:Nd}(hl:d.length<8192)(h1:n.1<20)(h2:n.2.1<d.length)(h3:n.2.2<d.length)(h4:n.2.1≠n.2.2)(h5:n.1<lvD d n.2.1)(h6:n.1<lvD d n.2.2)(hn:n∉d):DagOk (d++[n]):=by
 have hg:qW d (d++[n]):=⟨[n],rfl⟩;refine⟨by simp;have:=h.two;omega,by simp;omega,by rw[hg.at (by have:=h.two;omega)];exact h.n0,by rw[hg.at (by have:=h.two;omega)];exact h.n1,?_,?_⟩
 . intro i m hi hm;rw[List.getElem?_append]at hm;split at hm
   . rename_i hlt;obtain⟨g1,g2,g3,g4,g5,g6⟩:=h.node i m hi hm;exact⟨g1,g2,g3,g4,by rw[hg.lv (by omega)];exact g5,by rw[hg.lv (by omega)];exact g6⟩
   . rename_i hlt;have:i=d.length:=by
      have:=(List.getElem?_eq_some_iff.1 hm).1;simp at this;omega
     subst this;simp at hm;subst hm;exact⟨h1,h2,h3,h4,by rw[hg.lv h2];exact h5,by rw[hg.lv h3];exact h6⟩
 . exact List.nodup_append.2 ⟨h.nodup,by simp,fun x hx y hy e=>by simp at hy;subst hy;subst e;exact hn hx⟩
def jR (d:List Nd)(f level:Nat)(one:Bool):Nat:=match d[f]? with
 | some n=>if n.1=level then (if one then n.2.2 else n.2.1) else f
 | none=>f
theorem yC {d:List Nd}(h:DagOk d){f L:Nat}(hf:f<d.length)(hL:L<20)(hle:L<=lvD d f)(v:Bool) :
 jR d f L v<d.length/\L<lvD d (jR d f L v)/\∀ b,b L=v->evD d b f=evD d b (jR d f L v):=by
 have hn:=List.getElem?_eq_getElem hf;unfold jR;rw[hn];rw[zJ hn]at hle;simp only;by_cases hlv:(d[f]).1=L
 . have h2:2<=f:=by
    apply Classical.byContradiction;intro hc;have:f=0\/f=1:=by omega
    rcases this with rfl|rfl
    . have e:=h.n0;rw[hn]at e;rw[Option.some.inj e]at hlv;simp at hlv;omega
    . have e:=h.n1;rw[hn]at e;rw[Option.some.inj e]at hlv;simp at hlv;omega
   obtain⟨g1,g2,g3,g4,g5,g6⟩:=h.node f _ h2 hn;rw[if_pos hlv];refine⟨by split<;>omega,by split<;>omega,fun b hb=>?_⟩;rw[vZ h b h2 hn,hlv,hb]
 . rw[if_neg hlv];refine⟨hf,by rw[zJ hn];omega,fun b _=>rfl⟩
end Go.Abs
end
