/- A part of the proof. -/
import Derived.Test.YtpgcmnabljandaaGreatDoorPa01
import Derived.Laws.StructEq
import Derived.ChangeKeysEq
import Derived.Laws.AppendOwn
set_option linter.unusedVariables false
set_option linter.unusedSimpArgs false
set_option linter.defProp false
section
namespace Go.Abs
open Go Go.RowKit
section
theorem kB (a:List UInt8):(⟨a.toArray⟩:ByteArray).toList=a:=by rw[ByteArray.toList_eq]
theorem Je (a:List UInt8):(⟨a.toArray⟩:ByteArray).size=a.length:=by simp[ByteArray.size]
theorem qhr (a b:List UInt8):(⟨a.toArray⟩:ByteArray)++⟨b.toArray⟩=⟨(a++b).toArray⟩:=by
 apply ByteArray.ext;simp
theorem qen (a:List UInt8)(l h:Nat):(⟨a.toArray⟩:ByteArray).extract l h=⟨((a.take h).drop l).toArray⟩:=by
 apply ByteArray.ext;rw[ByteArray.data_extract];simp[qtF,qt3]
section
variable {P:Program}{G:Nat->AV}{w0:World}{ro0:Nat->Nat->Option Value}{K:Kn}{O:St}{w w':World}
theorem qdO {t:Nat}(h:P.cellsOf t≠0):∃ inf,P.info? t=some inf/\inf.size≠0:=by
 simp only[Program.cellsOf]at h
 cases hi:P.info? t with
 | none=>simp[hi]at h
 | some inf=>exact⟨inf,rfl,by simpa[hi] using h⟩
theorem WA (h:WRel G w0 ro0 K O w){s f:Nat}{x v:AV}{x':Value}(hx:qj K x x')(hf:Zg (Dof P) s x f=some v) :
 ∃ v',(Instr.fieldAt s x' f).run P w=.ok v' w/\qj K v v':=by
 unfold Zg at hf;split at hf
 . rename_i i hD;obtain⟨inf,d,z,hi,hu,hzero,rfl⟩:=qB hD;simp only at hf;split at hf
   . rename_i fs hd;obtain⟨fields,rfl,rfl,hnz,_⟩:=ql8 hd;split at hf
     . rename_i off ty hfo;simp only[qrw,qq0]at hfo;obtain⟨fl,hfl,he⟩:=hfo;simp only[Prod.mk.injEq]at he;obtain⟨rfl,rfl⟩:=he;have hfl':fields[f]?=some fl:=(by simpa using hfl);obtain⟨inf2,hi2,hsz2⟩:=qdO (hnz fl (qqW hfl));have hrun:∀ ad:Addr,(Instr.fieldAt s (.pointer (some ad)) f).run P w=.ok (.pointer (some (ad.add fl.offset))) w:=by
        intro ad;simp[Instr.fieldAt,run_underlying hu,hfl',Instr.sureAddr,fieldPlace,sizeOf,typeInfo,hi2,hsz2]
       split at hf
       . simp at hf;subst hf;simp only[qj]at hx;obtain⟨B,hm,rfl⟩:=hx;exact⟨_,hrun _,by rw[j9];exact⟨B,hm,rfl⟩⟩
       . simp at hf;subst hf;simp only[qj]at hx;obtain⟨B,o,rfl,hc⟩:=hx;exact⟨_,hrun _,by rw[j9];simp only[qj];exact⟨B,_,rfl,qp.drop B _ _ _ hc⟩⟩
       . cases hf
     . cases hf
   . cases hf
 . cases hf
theorem qk.sub {c:List AV}{vs:List Value}(h:qk K c vs)(off n:Nat):qk K ((c.drop off).take n) ((vs.drop off).take n):=by
 refine qk.intro (by simp[h.length]) fun i a e=>?_
 rw[qrL,qrR]at e;split at e
 . rename_i hi;obtain⟨v,e1,e2⟩:=h.get _ _ e;exact⟨v,by rw[qrL,if_pos hi,qrR];exact e1,e2⟩
 . cases e
theorem VR {t:Nat}{inf:TypeInfo}{d:TypeDesc}(hi:P.info? t=some inf)(hu:P.underlying t=some d){c c':List AV}{vs:Array Value}(hc:qk K c vs.toList){off:Nat}
 (h1:cut c off (if (Qw P d).agg=some true then inf.size else 1)=some c') {v:AV} (h2:Qp (Qw P d).agg c'=some v):∃ v',(part t vs off).run P w=.ok v' w/\qj K v v':=by
 obtain⟨g1,g2,g3⟩:=qbB h1;have hd:Qw P d≠.other:=by intro e;rw[e]at h2;simp[TD.agg,Qp]at h2
 have ha:=qcq (w:=w) hu hd
 cases hg:(Qw P d).agg with
 | none=>rw[hg]at h2;simp[Qp]at h2
 | some g=>
  rw[hg]at h2 ha
  cases g with
  | true=>
   simp[Qp]at h2;subst h2;rw[hg]at g2;simp only[if_true]at g2;refine⟨.agg (vs.extract off (off+inf.size)),?_,?_⟩
   . simp only[part,Sem.run_bind,ha,Result.andThen_ok];simp[sizeOf,typeInfo,hi]
   . simp only[qj];refine⟨_,rfl,?_⟩;rw[g2];have:=hc.sub off inf.size;simpa[qtF] using this
  | false=>
   simp only[Qp]at h2;rw[hg]at g2 g1;simp only[Option.some.injEq,qrq,if_false]at g2 g1;have hget:c[off]?=some v:=by
    rw[g2,List.head?_take]at h2;simp[List.head?_drop]at h2;exact h2
   obtain⟨v',e1,e2⟩:=hc.get off v hget;refine⟨v',?_,e2⟩;simp only[part,Sem.run_bind,ha,Result.andThen_ok];have:vs[off]?=some v':=by simpa using e1
   simp[this]
theorem qfa {s f:Nat}{x v:AV}{x':Value}(hx:qj K x x')(hf:qgL (Dof P) s x f=some v) :
 ∃ v',(Instr.field s x' f).run P w=.ok v' w/\qj K v v':=by
 unfold qgL at hf;split at hf
 . rename_i i c hD;obtain⟨inf,d,z,hi,hu,hzero,rfl⟩:=qB hD;simp only at hf;split at hf
   . rename_i fs hd;obtain⟨fields,rfl,rfl,hnz,_⟩:=ql8 hd;split at hf
     . rename_i off ty hfo;simp only[qrw,qq0]at hfo;obtain⟨fl,hfl,he⟩:=hfo;simp only[Prod.mk.injEq]at he;obtain⟨rfl,rfl⟩:=he;have hfl':fields[f]?=some fl:=(by simpa using hfl);split at hf
       . rename_i j hj;obtain⟨inf2,d2,z2,hi2,hu2,_,rfl⟩:=qB hj;obtain⟨c',hc',hv⟩:=qr9.1 hf;simp only[qj]at hx;obtain⟨vs,rfl,hvs⟩:=hx;obtain⟨v',e1,e2⟩:=VR (w:=w) hi2 hu2 hvs hc' hv;refine⟨v',?_,e2⟩;simp[Instr.field,run_underlying hu,hfl',asAgg,e1]
       . cases hf
     . cases hf
   . cases hf
 . cases hf
theorem y9 {i:AV}{n:Int}(h:wx i=some n){i':Value}(hi:qj K i i'):∃ k,i'=.int k n:=by
 cases i<;>simp[wx]at h;subst h;exact⟨_,by simpa only[qj] using hi⟩
theorem Wj (h:WRel G w0 ro0 K O w){t:Nat}{x i v:AV}{x' i':Value}(hx:qj K x x')(hi':qj K i i')(hf:Ze (Dof P) t x i=some v) :
 ∃ v',(Instr.indexAt t x' i').run P w=.ok v' w/\qj K v v':=by
 unfold Ze at hf;split at hf
 . rename_i ti n hD hn;obtain⟨inf,d,z,hi,hu,hzero,rfl⟩:=qB hD;obtain⟨k,rfl⟩:=y9 hn hi';simp only at hf;split at hf
   . rename_i e hd;have hd':=Zr hd;subst hd';split at hf
     . rename_i j hj;obtain⟨inf2,d2,z2,hi2,hu2,_,rfl⟩:=qB hj;split at hf
       . rename_i sz rows tok;split at hf
         . rename_i hc;obtain⟨h0,hsz⟩:=hc;simp only at hsz;obtain⟨r,hr,rfl⟩:=qq0.1 hf;have hlt:n.toNat<rows.length:=(qqV.1 hr).1;simp only[qj]at hx;rcases hx with ⟨_,rfl,_⟩|⟨B,off,cap,rfl,hcap,hrows,_⟩
           . simp at hlt
           . have hsz':sz=inf2.size:=by
              rcases hsz with hsz|rfl
              . exact hsz
              . simp at hlt
             subst hsz';obtain⟨_,_,hca⟩:=qW.get B _ rows off hrows _ _ hr;refine⟨.pointer (some ⟨B,off+n.toNat*inf2.size,none⟩),?_,by simp only[qj];exact⟨B,_,rfl,hca⟩⟩;have hn2:n<(rows.length:Int):=(by omega);simp[Instr.indexAt,asIntOf,run_underlying hu,h0,hn2,sizeOf,typeInfo,hi2,j9]
         . cases hf
       . rename_i b off len sz;split at hf
         . rename_i hc;obtain⟨h0,hlt,hsz⟩:=hc;simp only at hsz;subst hsz;simp at hf;subst hf;simp only[qj]at hx;obtain⟨B,cap,hm,rfl,_⟩:=hx;refine⟨.pointer (some ⟨B,off+n.toNat*inf2.size,none⟩),?_,by simp only[qj];exact⟨B,hm,rfl⟩⟩;simp[Instr.indexAt,asIntOf,run_underlying hu,h0,hlt,sizeOf,typeInfo,hi2,j9]
         . cases hf
       . cases hf
     . cases hf
   . rename_i m e hd;have hd':=qca hd;subst hd';split at hf
     . rename_i j hj;obtain⟨inf2,d2,z2,hi2,hu2,_,rfl⟩:=qB hj;split at hf
       . rename_i hc;obtain⟨h0,hlt⟩:=hc;have hrun:∀ ad:Addr,(Instr.indexAt t (.pointer (some ad)) (.int k n)).run P w=.ok (.pointer (some (ad.add (n.toNat*inf2.size)))) w:=by
          intro ad;simp[Instr.indexAt,asIntOf,run_underlying hu,h0,hlt,sizeOf,typeInfo,hi2,Instr.sureAddr]
         split at hf
         . simp at hf;subst hf;simp only[qj]at hx;obtain⟨B,hm,rfl⟩:=hx;exact⟨_,hrun _,by rw[j9];exact⟨B,hm,rfl⟩⟩
         . simp at hf;subst hf;simp only[qj]at hx;obtain⟨B,o,rfl,hc⟩:=hx;exact⟨_,hrun _,by rw[j9];simp only[qj];exact⟨B,_,rfl,qp.drop B _ _ _ hc⟩⟩
         . cases hf
       . cases hf
     . cases hf
   . cases hf
 . cases hf
theorem qe0 {t:Nat}{x i v:AV}{x' i':Value}(hx:qj K x x')(hi':qj K i i')(hf:qgv (Dof P) t x i=some v) :
 ∃ v',(Instr.index t x' i').run P w=.ok v' w/\qj K v v':=by
 unfold qgv at hf;split at hf
 . rename_i ti n hD hn;obtain⟨inf,d,z,hi,hu,hzero,rfl⟩:=qB hD;obtain⟨k,rfl⟩:=y9 hn hi';simp only at hf;split at hf
   . rename_i s hd;have hd':=QD hd;subst hd';split at hf
     . rename_i h0;obtain⟨b,hb,rfl⟩:=qq0.1 hf;simp only[qj]at hx;subst hx;refine⟨.int .u8 b.toNat,?_,by simp[qj]⟩;have:(⟨s.toArray⟩:ByteArray)[n.toNat]?=some b:=by
        have hlt:=(qqV.1 hb);obtain⟨h1,h2⟩:=hlt;rw[getElem?_pos _ _ (by rw[Je];exact h1)];congr 1
       simp[Instr.index,asIntOf,run_underlying hu,h0,this]
     . cases hf
   . rename_i m e c hd;have hd':=qca hd;subst hd';split at hf
     . rename_i j hj;obtain⟨inf2,d2,z2,hi2,hu2,_,rfl⟩:=qB hj;split at hf
       . rename_i hc;obtain⟨h0,hlt⟩:=hc;obtain⟨c',hc',hv⟩:=qr9.1 hf;simp only[qj]at hx;obtain⟨vs,rfl,hvs⟩:=hx;obtain⟨v',e1,e2⟩:=VR (w:=w) hi2 hu2 hvs hc' hv;refine⟨v',?_,e2⟩;simp[Instr.index,asIntOf,run_underlying hu,h0,hlt,sizeOf,typeInfo,hi2,e1]
       . cases hf
     . cases hf
   . cases hf
 . cases hf
theorem qbv {x v:AV}{x':Value}(hx:qj K x x'){i:Nat}(hf:Y9 x i=some v):∃ v',(Instr.extract x' i).run P w=.ok v' w/\qj K v v':=by
 cases x<;>simp[Y9]at hf;simp only[qj]at hx;obtain⟨vs,rfl,hvs⟩:=hx;obtain⟨v',e1,e2⟩:=hvs.get i v hf;have:vs[i]?=some v':=by simpa using e1
 exact⟨v',by simp[Instr.extract,this],e2⟩
theorem ql7 {op:UnOp}{x v:AV}{x':Value}(hx:qj K x x')(hf:unA op x=some v):∃ v',(Op.unary op x').run P w=.ok v' w/\qj K v v':=by
 unfold unA at hf;split at hf
 . simp only[qj]at hx;subst hx;simp at hf;subst hf;exact⟨_,by simp only[Op.unary,pure,Sem.run];rfl,by simp[qj]⟩
 . simp only[qj]at hx;subst hx;simp only[Option.some.injEq]at hf;subst hf;exact⟨_,by simp only[Op.unary,Op.intArith,pure,Sem.run];rfl,by simp[qj]⟩
 . simp only[qj]at hx;subst hx;simp at hf;subst hf;exact⟨_,by simp[Op.unary,Op.intBits];rfl,by simp[qj]⟩
 . cases hf
theorem qeZ {op:BinOp}{k:IntKind}{a b:Int}{v:AV}(hf:QQ op k a b=some v)(t:Nat)(hs:op≠.shl/\op≠.shr) :
 ∃ v',(binOp op t (.int k a) (.int k b)).run P w=.ok v' w/\qj K v v':=by
 obtain⟨hs1,hs2⟩:=hs;cases op<;>simp only[QQ]at hf<;>first
  | exact absurd rfl hs1
  | exact absurd rfl hs2
  | skip
 all_goals first
  | (split at hf
     . cases hf
     . rename_i hb;simp at hf;subst hf;exact⟨_,by simp[binOp,Op.intDiv,hb];rfl,by simp[qj]⟩)
  | (simp at hf;subst hf;exact⟨_,by simp[binOp,Op.intArith,Op.intBits,Op.intCmp];rfl,by simp[qj]⟩)
  | (cases hf)
end
end
section
section
variable {P:Program}{G:Nat->AV}{w0:World}{ro0:Nat->Nat->Option Value}{K:Kn}{O:St}{w w':World}
theorem ZN {t:Nat}(h:vL (Dof P) t=true):∃ inf,P.info? t=some inf/\(P.underlying t=some .bool\/P.underlying t=some .string\/∃ k,P.underlying t=some (.int k)):=by
 unfold vL at h;split at h
 . rename_i i hD;obtain⟨inf,d,z,hi,hu,_,rfl⟩:=qB hD;refine⟨inf,hi,?_⟩;simp only at h;split at h
   . rename_i k hd;exact .inr (.inr ⟨k,by rw[hu,Ys hd]⟩)
   . rename_i hd;exact .inl (by rw[hu,qaD hd])
   . rename_i hd;exact .inr (.inl (by rw[hu,QD hd]))
   . cases h
 . cases h
theorem YE (d : Nat) (xs ys : Array Value) : ∀ (fs : List Field) (k : Nat) (as bs : List AV) (p : Bool), (∀ f ∈ fs, vL (Dof P) f.type = true ∧ f.name ≠ "_") →
 fs.map (·.offset)=List.range' k fs.length->as.length=fs.length->qk K as (xs.toList.drop k)->qk K bs (ys.toList.drop k)->yt as bs=some p ->
 (∀ (j:Nat) (f:Field) (a:AV),fs[j]?=some f->as[j]?=some a->(match P.underlying f.type,a with | some .bool,.bool _=>True | some .string,.str _=>True | some (.int _),.int .. =>True | _,_=>False)) ->
 (Op.eqFields (d+1) xs ys fs).run P w=.ok p w
 | [],k,as,bs,p,_,_,hl,h1,h2,he,_=>by
  have:as=[]:=qrU (by simpa using hl);subst this
  cases bs with
  | nil=>simp[yt]at he;subst he;simp[Op.eqFields]
  | cons=>simp[yt]at he
 | f::fs,k,as,bs,p,hf,ho,hl,h1,h2,he,ht=>by
  cases as with
  | nil=>simp at hl
  | cons a as=>
   cases bs with
   | nil=>simp[yt]at he
   | cons b bs=>
    simp only[qqZ,qq5,List.range'_succ,List.cons.injEq]at ho;obtain⟨ho1,ho2⟩:=ho;simp only[qk]at h1 h2;obtain⟨va,ra,e1,g1,g2⟩:=h1;obtain⟨vb,rb,e2,g3,g4⟩:=h2;simp only[yt]at he;split at he
    . rename_i p1 q1 hp1 hq1;simp only[Option.some.injEq]at he;subst he;obtain⟨hpl,hnm⟩:=hf f (by simp);have htk:=ht 0 f a (by simp) (by simp);have hxa:xs[f.offset]?=some va:=by
       have:(xs.toList.drop k)[0]?=some va:=by rw[e1];rfl
       rw[ho1];simpa using this
      have hyb:ys[f.offset]?=some vb:=by
       have:(ys.toList.drop k)[0]?=some vb:=by rw[e2];rfl
       rw[ho1];simpa using this
      have hdx:ra=xs.toList.drop (k+1):=by
       have:=congrArg List.tail e1;simpa using this.symm
      have hdy:rb=ys.toList.drop (k+1):=by
       have:=congrArg List.tail e2;simpa using this.symm
      have ih:=YE d xs ys fs (k+1) as bs q1 (fun x hx=>hf x (by simp[hx])) ho2 (by simpa using hl) (hdx▸g2) (hdy▸g4) hq1
       (fun j f' a' h1 h2=>ht (j+1) f' a' (by simpa using h1) (by simpa using h2))
      obtain⟨inf,hi,hu⟩:=ZN hpl;have hagg:(isAgg f.type).run P w=.ok false w:=by
       rcases hu with hu|hu|⟨k,hu⟩<;>simp[isAgg,run_underlying hu]
      have heq:(Op.equalIn (d+1) f.type va vb).run P w=.ok p1 w:=by
       rcases hu with hu|hu|⟨k',hu⟩
       . rw[hu]at htk;cases a<;>simp at htk;cases b<;>simp[vB]at hp1;subst hp1;simp only[qj]at g1 g3;subst g1;subst g3;simp[Op.equalIn,run_underlying hu]
       . rw[hu]at htk;cases a<;>simp at htk;cases b<;>simp[vB]at hp1;subst hp1;simp only[qj]at g1 g3;subst g1;subst g3;rw[run_equalIn_string w d f.type _ _ hu,kB,kB]
       . rw[hu]at htk;cases a<;>simp at htk;cases b<;>simp only[vB]at hp1<;>try (cases hp1;done)
         split at hp1
         . rename_i hk;simp at hp1;subst hp1;subst hk;simp only[qj]at g1 g3;subst g1;subst g3;exact run_equalIn_int w d f.type _ k' _ _ hu
         . cases hp1
      simp only[Op.eqFields,if_pos hnm];simp[part,hagg,hxa,hyb,heq];cases p1
      . simp
      . simpa using ih
    . cases he
def qbs:TD->AV->Prop
 | .bool,.bool _=>True
 | .str,.str _=>True
 | .int _,.int .. =>True
 | _,_=>False
theorem QT:∀ (tds:List TD) (as:List AV),km tds as=true->as.length=tds.length /\
 ∀ (j:Nat) (td:TD) (a:AV),tds[j]?=some td->as[j]?=some a->qbs td a
 | [],[],_=>⟨rfl,by simp⟩
 | [],a::r,h=>by simp[km]at h
 | td::r,[],h=>by cases td<;>simp[km]at h
 | td::r,a::s,h=>by
  have:km r s=true/\qbs td a:=by
   cases td<;>cases a<;>simp[km]at h<;>exact⟨h,trivial⟩
  obtain⟨h1,h2⟩:=this;obtain⟨i1,i2⟩:=QT r s h1;refine⟨by simp[i1],fun j td' a' e1 e2=>?_⟩
  cases j with
  | zero=>simp at e1 e2;rw[<- e1,<- e2];exact h2
  | succ j=>exact i2 j td' a' (by simpa using e1) (by simpa using e2)
theorem qie {t:Nat}{tds:List TD}(h:qif (Dof P) t=some tds) :
 ∃ fields : Array Field, P.underlying t = some (.struct fields) ∧ P.stoodInHeld t = false ∧ tds = fields.toList.map (fun f => zw (Dof P) f.type) ∧ (∀ f ∈ fields.toList, vL (Dof P) f.type = true ∧ f.name ≠ "_") ∧
  fields.toList.map (·.offset)=List.range fields.size:=by
 unfold qif at h;split at h
 . rename_i i hD;obtain⟨inf,d,z,hi,hu,_,rfl⟩:=qB hD;simp only at h;split at h
   . rename_i fs hd;obtain⟨fields,rfl,rfl,_,hnm⟩:=ql8 hd;split at h
     . rename_i hc;simp only[Option.some.injEq]at h;simp only[qq1,qsq,beq_iff_eq,qr2,qrv,qr0,qsA,qq7]at hc;obtain⟨⟨h1,h2⟩,h3⟩:=hc;refine⟨fields,hu,h1,by rw[<- h];simp,fun f hf=>⟨h2 f hf,hnm f hf⟩,?_⟩;rw[<- h3];rfl
     . cases h
   . cases h
 . cases h
theorem vS {t:Nat}(h:vL (Dof P) t=true)(d:Nat):P.eqGuardType (d+1) t=false:=by
 obtain⟨inf,hi,hu⟩:=ZN h;rcases hu with hu|hu|⟨k,hu⟩<;>simp[Program.eqGuardType,hu]
theorem WH (d:Nat){e:Nat}(he:vL (Dof P) e=true)(xs ys:Array Value):∀ (n k:Nat) (as bs:List AV) (p:Bool),as.length=n ->
 qk K as (xs.toList.drop k)->qk K bs (ys.toList.drop k)->yt as bs=some p ->
 (∀ a∈as,(match P.underlying e,a with | some .bool,.bool _=>True | some .string,.str _=>True | some (.int _),.int .. =>True | _,_=>False)) ->
 (Op.eqItems (d+1) e 1 xs ys (List.range' k n)).run P w=.ok p w
 | 0,k,as,bs,p,hl,h1,h2,hq,_=>by
  have:as=[]:=qrU hl;subst this
  cases bs with
  | nil=>simp[yt]at hq;subst hq;simp[Op.eqItems]
  | cons=>simp[yt]at hq
 | n+1,k,as,bs,p,hl,h1,h2,hq,ht=>by
  cases as with
  | nil=>simp at hl
  | cons a as=>
   cases bs with
   | nil=>simp[yt]at hq
   | cons b bs=>
    simp only[qk]at h1 h2;obtain⟨va,ra,e1,g1,g2⟩:=h1;obtain⟨vb,rb,e2,g3,g4⟩:=h2;simp only[yt]at hq;split at hq
    . rename_i p1 q1 hp1 hq1;simp only[Option.some.injEq]at hq;subst hq;have htk:=ht a (by simp);have hxa:xs[k]?=some va:=by
       have:(xs.toList.drop k)[0]?=some va:=by rw[e1];rfl
       simpa using this
      have hyb:ys[k]?=some vb:=by
       have:(ys.toList.drop k)[0]?=some vb:=by rw[e2];rfl
       simpa using this
      have hdx:ra=xs.toList.drop (k+1):=by
       have:=congrArg List.tail e1;simpa using this.symm
      have hdy:rb=ys.toList.drop (k+1):=by
       have:=congrArg List.tail e2;simpa using this.symm
      have ih:=WH d he xs ys n (k+1) as bs q1 (by simpa using hl) (hdx▸g2) (hdy▸g4) hq1 (fun a' h'=>ht a' (by simp[h']));obtain⟨inf,hi,hu⟩:=ZN he;have hagg:(isAgg e).run P w=.ok false w:=by
       rcases hu with hu|hu|⟨k,hu⟩<;>simp[isAgg,run_underlying hu]
      have heq:(Op.equalIn (d+1) e va vb).run P w=.ok p1 w:=by
       rcases hu with hu|hu|⟨k',hu⟩
       . rw[hu]at htk;cases a<;>simp at htk;cases b<;>simp[vB]at hp1;subst hp1;simp only[qj]at g1 g3;subst g1;subst g3;simp[Op.equalIn,run_underlying hu]
       . rw[hu]at htk;cases a<;>simp at htk;cases b<;>simp[vB]at hp1;subst hp1;simp only[qj]at g1 g3;subst g1;subst g3;rw[run_equalIn_string w d e _ _ hu,kB,kB]
       . rw[hu]at htk;cases a<;>simp at htk;cases b<;>simp only[vB]at hp1<;>try (cases hp1;done)
         split at hp1
         . rename_i hk;simp at hp1;subst hp1;subst hk;simp only[qj]at g1 g3;subst g1;subst g3;exact run_equalIn_int w d e _ k' _ _ hu
         . cases hp1
      rw[List.range'_succ];simp only[Op.eqItems];simp[part,hagg,hxa,hyb,heq];cases p1
      . simp
      . simpa using ih
    . cases hq
theorem qlx {t:Nat}{tds:List TD}(h:arrT (Dof P) t=some tds) :
 ∃ n e inf td,P.underlying t=some (.array n e)/\P.info? e=some inf/\P.cellsOf e=1/\vL (Dof P) e=true/\tds=List.replicate n (Qw P td)/\P.underlying e=some td:=by
 unfold arrT at h;split at h
 . rename_i i hD;obtain⟨inf,d,z,hi,hu,_,rfl⟩:=qB hD;simp only at h;split at h
   . rename_i n e hd;split at h
     . rename_i j hj;obtain⟨inf2,d2,z2,hi2,hu2,_,rfl⟩:=qB hj;split at h
       . rename_i hc;simp only[Option.some.injEq]at h;simp only[qq1,beq_iff_eq]at hc;exact⟨n,e,inf2,d2,by rw[hu,qca hd],hi2,by simp[Program.cellsOf,hi2,hc.2],hc.1,h.symm,hu2⟩
       . cases h
     . cases h
   . cases h
 . cases h
theorem qk1 {t:Nat}{tds:List TD}{a b:List AV}{p:Bool}(ht:arrT (Dof P) t=some tds)(hfit:km tds a=true)(h:yt a b=some p){as bs:Array Value}(ha:qk K a as.toList)(hb:qk K b bs.toList) :
 P.eqGuardType P.depth t=false/\(Op.equalIn 10000 t (.agg as) (.agg bs)).run P w=.ok p w:=by
 obtain⟨n,e,inf,td,hu,hi,hc,hpl,rfl,hue⟩:=qlx ht;obtain⟨hl,hk⟩:=QT _ _ hfit;constructor
 . have:∃ d,P.depth=d+2:=⟨2*(P.types.size+Made.depth),rfl⟩;obtain⟨d,hd⟩:=this;rw[hd,Program.eqGuardType];simp only[hu];exact vS hpl d
 . rw[run_equalIn_array w 9999 as bs hu hi,hc,List.range_eq_range'];refine WH 9998 hpl as bs n 0 a b p (by simpa using hl) (by simpa using ha) (by simpa using hb) h ?_;intro x hx;obtain⟨j,hj⟩:=qsY.1 hx;have hjl:j<n:=by
    obtain⟨h1,_⟩:=qqV.1 hj;simpa[hl] using h1
   have hf:=hk j (Qw P td) x (by simp[hjl]) hj;rw[hue];cases hd:Qw P td<;>simp only[hd]at hf<;>cases x<;>simp only[qbs]at hf
   . rw[qaD hd];trivial
   . rw[Ys hd];trivial
   . rw[QD hd];trivial
theorem qdx {t:Nat}{a b:List AV}{p:Bool}(h:Vn (Dof P) t a b=some p){as bs:Array Value}(ha:qk K a as.toList)(hb:qk K b bs.toList) :
 P.eqGuardType P.depth t=false/\(Op.equalIn 10000 t (.agg as) (.agg bs)).run P w=.ok p w:=by
 unfold Vn at h;split at h
 . rename_i tds htds;split at h
   . rename_i hfit;obtain⟨fields,hu,hst,rfl,hpl,hoff⟩:=qie htds;obtain⟨hl,hk⟩:=QT _ _ hfit;have hfo:P.fieldsOf t=fields:=(by simp[Program.fieldsOf,hu]);constructor
     . have:∃ d,P.depth=d+2:=⟨2*(P.types.size+Made.depth),rfl⟩;obtain⟨d,hd⟩:=this;rw[hd];rw[Program.eqGuardType];simp only[hu];rw[<- Array.any_toList];rw[qrx];intro f hf;have:=vS (hpl f hf).1 d;simp[this]
     . rw[run_equalIn_struct w 9999 t as bs (by rw[hfo];exact hu) hst,hfo];refine YE 9998 as bs fields.toList 0 a b p hpl (by rw[hoff,List.range_eq_range'];simp) (by simpa using hl) (by simpa using ha) (by simpa using hb) h ?_;intro j f x e1 e2;have:=hk j (zw (Dof P) f.type) x (by simp[e1]) e2;have hp:=(hpl f (qqW e1)).1;unfold vL at hp;unfold zw at this
       cases hD:Dof P f.type with
       | none=>simp[hD]at hp
       | some i=>
        obtain⟨inf,d,z,hi,hu',_,rfl⟩:=qB hD;simp only[hD]at this;rw[hu'];cases hd:Qw P d<;>simp only[hd]at this<;>cases x<;>simp only[qbs]at this
        . rw[qaD hd];trivial
        . rw[Ys hd];trivial
        . rw[QD hd];trivial
   . cases h
 . split at h
   . rename_i tds htds;split at h
     . rename_i hfit;exact qk1 htds hfit h ha hb
     . cases h
   . cases h
theorem qlq {op:BinOp}{t:Nat}{x y v:AV}{x' y':Value}(hx:qj K x x')(hy:qj K y y')(hf:qiw (Dof P) op t x y=some v)(ox oy:Operand) :
 ∃ v',(do eqGuard op t ox oy x' y';binOp op t x' y':Sem Value).run P w=.ok v' w/\qj K v v':=by
 have guard:∀ {a b:Value},(∀ s,a≠.agg s)->a≠.nilIface->(eqGuard op t ox oy a b).run P w=.ok () w:=by
  intro a b h1 h2;cases op<;>simp[eqGuard]<;>cases a<;>first | exact absurd rfl (h1 _) | exact absurd rfl h2 | rfl | simp
 unfold qiw at hf;split at hf
 . rename_i k a k' b;simp only[qj]at hx hy;subst hx;subst hy;split at hf
   . split at hf
     . cases hf
     . rename_i hb;simp only[Option.some.injEq]at hf;subst hf;exact⟨.int k (k.wrap (a*2 ^ (min b.toNat k.bits))),by rw[Sem.run_bind,guard (by simp) (by simp),Result.andThen_ok];simp[binOp,Op.shift,hb],by simp[qj]⟩
   . split at hf
     . cases hf
     . rename_i hb;simp only[Option.some.injEq]at hf;subst hf;exact⟨.int k (a.fdiv (2 ^ (min b.toNat k.bits))),by rw[Sem.run_bind,guard (by simp) (by simp),Result.andThen_ok];simp[binOp,Op.shift,hb],by simp[qj]⟩
   . rename_i h1 h2;split at hf
     . rename_i hk;subst hk;obtain⟨v',e1,e2⟩:=qeZ (P:=P) (K:=K) (w:=w) hf t ⟨fun e=>h1 e,fun e=>h2 e⟩;exact⟨v',by rw[Sem.run_bind,guard (by simp) (by simp),Result.andThen_ok];exact e1,e2⟩
     . cases hf
 . rename_i a b;simp only[qj]at hx hy;subst hx;subst hy;have key:∀ u:Value,(Op.stringOp op ⟨a.toArray⟩ ⟨b.toArray⟩).run P w=.ok u w->(do eqGuard op t ox oy (.string ⟨a.toArray⟩) (.string ⟨b.toArray⟩);binOp op t (.string ⟨a.toArray⟩) (.string ⟨b.toArray⟩):Sem Value).run P w=.ok u w:=by
    intro u hu;rw[Sem.run_bind,guard (by simp) (by simp),Result.andThen_ok];cases op<;>simpa[binOp] using hu
   cases op<;>simp only[qpi]at hf
   case add=>
    split at hf
    . rename_i hl;simp only[Option.some.injEq]at hf;subst hf;refine⟨.string ⟨(a++b).toArray⟩,key _ ?_,by simp[qj]⟩;have:¬ (((⟨a.toArray⟩:ByteArray).size+(⟨b.toArray⟩:ByteArray).size:Nat):Int) > IntKind.i64.max:=by
       rw[Je,Je];simp[IntKind.max,IntKind.signed,IntKind.bits];omega
      simp only[Op.stringOp];rw[if_neg this,qhr];rfl
    . cases hf
   all_goals first
    | (cases hf;done)
    | (simp only[Option.some.injEq]at hf;subst hf
       exact⟨.bool _,key _ (by simp only[Op.stringOp,kB,pure,Sem.run];rfl),by simp[qj]⟩)
 . rename_i a b;simp only[qj]at hx hy;subst hx;subst hy;have hty:zw (Dof P) t=.bool->P.underlying t=some .bool:=by
    intro e;unfold zw at e;split at e
    . rename_i i hD;obtain⟨inf,d,z,hi,hu,_,rfl⟩:=qB hD;rw[hu,qaD e]
    . cases e
   split at hf
   . rename_i htd;simp only[Option.some.injEq]at hf;subst hf;exact⟨.bool (a==b),by rw[Sem.run_bind,guard (by simp) (by simp),Result.andThen_ok];simp[binOp,Op.equal,Op.maxDepth,run_equalIn_bool' w 9999 t a b (hty htd)],by simp[qj]⟩
   . rename_i htd;simp only[Option.some.injEq]at hf;subst hf;exact⟨.bool (!(a==b)),by rw[Sem.run_bind,guard (by simp) (by simp),Result.andThen_ok];simp[binOp,Op.equal,Op.maxDepth,run_equalIn_bool' w 9999 t a b (hty htd)],by simp[qj]⟩
   . cases hf
 . rename_i a b;simp only[qj]at hx hy;obtain⟨as,rfl,ha⟩:=hx;obtain⟨bs,rfl,hb⟩:=hy;split at hf
   . obtain⟨p,hp,rfl⟩:=qq0.1 hf;obtain⟨e1,e2⟩:=qdx (w:=w) hp ha hb;exact⟨.bool p,by simp only[Sem.run_bind,run_eqGuard_agg w _ t ox oy as bs e1,Result.andThen_ok,run_eql_struct,e2],by simp[qj]⟩
   . obtain⟨p,hp,rfl⟩:=qq0.1 hf;obtain⟨e1,e2⟩:=qdx (w:=w) hp ha hb;exact⟨.bool (!p),by simp only[Sem.run_bind,run_eqGuard_agg w _ t ox oy as bs e1,Result.andThen_ok,run_neq_struct,e2],by simp[qj]⟩
   . cases hf
 . cases hf
theorem Wq (f:Value->ByteArray->Sem (ForInStep ByteArray))(hf:∀ n s,f (.int .u8 n) s=pure (ForInStep.yield (s.push (UInt8.ofNat n.toNat)))) :
 ∀ (rows:List (List AV)) (vs:List Value) (l:List UInt8) (s:ByteArray),qk K rows.flatten vs->Qo rows=some l ->
 (forIn vs s f:Sem ByteArray).run P w=.ok ⟨(s.data.toList++l).toArray⟩ w
 | [],vs,l,s,h,hl=>by
  simp[Qo]at hl;subst hl;simp only[List.flatten_nil,qk]at h;subst h;simp
 | r::rows,vs,l,s,h,hl=>by
  unfold Qo at hl;split at hl
  . rename_i hx;simp at hx
  . rename_i n r' hx;simp only[List.cons.injEq]at hx;obtain⟨rfl,rfl⟩:=hx;obtain⟨l',hl',rfl⟩:=qq0.1 hl;simp only[qrA,qtj,qk,qj]at h;obtain⟨v,vr,rfl,rfl,h2⟩:=h;have ih:=Wq f hf rows vr l' (s.push (UInt8.ofNat n.toNat)) h2 hl';simp only[List.forIn_cons,hf];simp only[pure,Sem.run_bind,Sem.run,Result.andThen_ok];rw[ih];simp
  . cases hl
theorem qip (h:WRel G w0 ro0 K O w){s d:Nat}{x v:AV}{x':Value}(hx:qj K x x')(hf:Zu (Dof P) s d x=some v) :
 ∃ v',(convert s d x').run P w=.ok v' w/\qj K v v':=by
 unfold Zu at hf;split at hf
 . rename_i i j k n hi hj;obtain⟨inf,d1,z,hi1,hu1,_,rfl⟩:=qB hi;obtain⟨inf2,d2,z2,hi2,hu2,_,rfl⟩:=qB hj;simp only at hf;split at hf
   . rename_i k1 k2 e1 e2;simp only[Option.some.injEq]at hf;subst hf;simp only[qj]at hx;subst hx;refine⟨.int k2 (k2.wrap n),?_,by simp[qj]⟩;have e1':=Ys e1;have e2':=Ys e2;subst e1' e2';simp[convert,run_underlying hu1,run_underlying hu2,Conv.intToInt]
   . cases hf
 . rename_i i j l hi hj;obtain⟨inf,d1,z,hi1,hu1,_,rfl⟩:=qB hi;obtain⟨inf2,d2,z2,hi2,hu2,_,rfl⟩:=qB hj;simp only at hf;split at hf
   . rename_i e1 e2;simp only[Option.some.injEq]at hf;subst hf;simp only[qj]at hx;subst hx;refine⟨.string ⟨l.toArray⟩,?_,by simp[qj]⟩;have e1':=QD e1;have e2':=QD e2;subst e1' e2';simp[convert,run_underlying hu1,run_underlying hu2]
   . cases hf
 . rename_i i j rows tok hi hj;obtain⟨inf,d1,z,hi1,hu1,_,rfl⟩:=qB hi;obtain⟨inf2,d2,z2,hi2,hu2,_,rfl⟩:=qB hj;simp only at hf;split at hf
   . rename_i e e1 e2;have e1':=Zr e1;have e2':=QD e2;subst e1' e2';split at hf
     . rename_i m hm;obtain⟨inf3,d3,z3,hi3,hu3,_,rfl⟩:=qB hm;simp only at hf;split at hf
       . rename_i e3;have e3':=Ys e3;subst e3';obtain⟨l,hl,rfl⟩:=qq0.1 hf;simp only[qj]at hx;rcases hx with ⟨⟨a0,rfl,_⟩,rfl,_⟩|⟨B,off,cap,rfl,hcap,hrows,_⟩
         . simp[Qo]at hl;subst hl;refine⟨.string .empty,?_,by simp[qj];rfl⟩;cases a0<;>simp[convert,run_underlying hu1,run_underlying hu2,run_underlying hu3,Conv.bytesToString,loadCells,loadCellsFrom]
         . obtain⟨f1,f2,f3⟩:=qW.flat B 1 rows off hrows;obtain⟨vs,g1,g2⟩:=qiH.of_cellsAt h.ro B _ off f1;have hcl:=run_loadCells_list (P:=P) w ⟨B,off,none⟩ vs (fun j v e=>by rw[j9];exact g2 j v e);have hlen:vs.length=rows.length:=(by rw[g1.length,f2];omega);rw[hlen]at hcl;refine⟨.string ⟨l.toArray⟩,?_,by simp[qj]⟩;simp only[convert,run_underlying hu1,run_underlying hu2,run_underlying hu3,Conv.bytesToString,Sem.run_bind,Result.andThen_ok,hcl];rw[<- Array.forIn_toList];simp only[];rw[Wq (P:=P) (w:=w) _ (fun n s=>rfl) rows _ l ByteArray.empty (by simpa using g1) hl];simp[ByteArray.empty,ByteArray.emptyWithCapacity];rfl
       . cases hf
     . cases hf
   . cases hf
 . cases hf
end
end
section
section
variable {P:Program}{G:Nat->AV}{w0:World}{ro0:Nat->Nat->Option Value}{K:Kn}{O:St}{w w':World}
theorem kM {k:IntKind}{n:Int}{y:Nat}(h0:0<=n)(h1:n<=y)(c:BoundsCode):(Instr.sliceBound (.int k n) y c).run P w=.ok n.toNat w:=by
 simp[Instr.sliceBound,asIntOf,h0,h1]
theorem kg {isS:Bool}{len cap:Nat}{lo hi mx:Option AV}{lo' hi' mx':Option Value}(hlo:∀ a,lo=some a->∃ v,lo'=some v/\qj K a v)(hlo0:lo=none->lo'=none)
 (hhi:∀ a,hi=some a->∃ v,hi'=some v/\qj K a v) (hhi0:hi=none->hi'=none) (hmx:∀ a,mx=some a->∃ v,mx'=some v/\qj K a v) (hmx0:mx=none->mx'=none)
 {l h:Int} (el:jp lo 0=some l) (eh:jp hi len=some h)
 (hle:0<=l/\l<=h/\h<=len) (hlc:len<=cap) (em:∀ a,mx=some a->wx a=some h/\hi.isSome) :
 (Instr.sliceBounds isS len cap lo' hi' mx').run P w=.ok (l.toNat,h.toNat,if mx.isSome then h.toNat else cap) w:=by
 obtain⟨h1,h2,h3⟩:=hle;have hlb:∀ c,(match lo' with | some v=>Instr.sliceBound v h.toNat c | none=>(pure 0:Sem Nat)).run P w=.ok l.toNat w:=by
  intro c
  cases lo with
  | none=>
   rw[hlo0 rfl];simp[jp]at el;subst el;simp
  | some a=>
   obtain⟨v,rfl,hv⟩:=hlo a rfl;obtain⟨k,rfl⟩:=y9 el hv;exact kM h1 (by omega) c
 cases mx with
 | none=>
  rw[hmx0 rfl]
  cases hi with
  | none=>
   rw[hhi0 rfl];simp only[jp,Option.some.injEq]at eh;subst eh;have:=hlb .sliceB
   cases hl':lo' with
   | none=>simp[hl']at this;simp[Instr.sliceBounds];omega
   | some v=>simp[hl']at this;simp[Instr.sliceBounds,this]
  | some a=>
   obtain⟨v,rfl,hv⟩:=hhi a rfl;obtain⟨k,rfl⟩:=y9 eh hv;have hb:=fun c=>kM (P:=P) (w:=w) (k:=k) (n:=h) (y:=cap) (by omega) (by omega) c
   have:=hlb .sliceB
   cases hl':lo' with
   | none=>simp[hl']at this;simp[Instr.sliceBounds,hb];omega
   | some v=>simp[hl']at this;simp[Instr.sliceBounds,hb,this]
 | some a=>
  obtain⟨v,rfl,hv⟩:=hmx a rfl;obtain⟨e1,e2⟩:=em a rfl;obtain⟨k,rfl⟩:=y9 e1 hv
  cases hi with
  | none=>simp at e2
  | some b=>
   obtain⟨u,rfl,hu⟩:=hhi b rfl;obtain⟨k',rfl⟩:=y9 eh hu;have hb:=fun c=>kM (P:=P) (w:=w) (k:=k) (n:=h) (y:=cap) (by omega) (by omega) c
   have hb':=fun c=>kM (P:=P) (w:=w) (k:=k') (n:=h) (y:=h.toNat) (by omega) (by omega) c
   have:=hlb .slice3C
   cases hl':lo' with
   | none=>simp[hl']at this;simp[Instr.sliceBounds,hb,hb'];omega
   | some v=>simp[hl']at this;simp[Instr.sliceBounds,hb,hb',this]
theorem qW.sub {B sz:Nat}{rows:List (List AV)}{off:Nat}(h:qW K B off sz rows)(l n:Nat):qW K B (off+l*sz) sz ((rows.take n).drop l):=by
 refine qW.intro B sz _ _ fun i r e=>?_
 rw[qrR,qrL]at e;split at e
 . obtain⟨h1,h2,h3⟩:=qW.get B sz rows off h _ _ e;exact⟨h1,h2,by rw[qrS]at h3;rwa[qs3]⟩
 . cases e
theorem qeM {N:Nat}{env:Env}{a:Act}(hw:WRel G w0 ro0 K O w)(he:ERel K N env a)(o:Option Operand) :
 (∀ x,o.map (ev G env)=some x->∃ v,o.map a.eval=some v/\qj K x v)/\(o.map (ev G env)=none->o.map a.eval=none):=by
 cases o with
 | none=>simp
 | some x=>exact⟨fun y e=>by simp at e;subst e;exact⟨_,rfl,ZD hw he x⟩,by simp⟩
theorem qjj {t:Nat}(hu:P.underlying t=some .string){s:List UInt8}{lo hi mx:Option AV}{lo' hi' mx':Option Value}(hlo:∀ a,lo=some a->∃ v,lo'=some v/\qj K a v)(hlo0:lo=none->lo'=none)
 (hhi:∀ a,hi=some a->∃ v,hi'=some v/\qj K a v) (hhi0:hi=none->hi'=none) (hmx0:mx=none->mx'=none)
 {v:AV} (hf:jg (.str s) lo hi mx=some v):∃ v',(Instr.sliceAt t (.string ⟨s.toArray⟩) lo' hi' mx').run P w=.ok v' w/\qj K v v':=by
 unfold jg at hf;simp only at hf;split at hf
 . rename_i l h el eh;split at hf
   . rename_i hc;simp only[Option.some.injEq]at hf;subst hf;rw[hmx0 rfl];have hb:=kg (P:=P) (w:=w) (K:=K) (isS:=false) (len:=s.length) (cap:=s.length) hlo hlo0 hhi hhi0 (mx:=none) (mx':=none) (by simp) (by simp) el eh hc (qrn _) (by simp);refine⟨.string ⟨((s.take h.toNat).drop l.toNat).toArray⟩,?_,by simp[qj]⟩;simp only[qtc,qrq,if_false]at hb;simp only[Instr.sliceAt,Instr.slice,Sem.run_bind,run_underlying hu,Result.andThen_ok,Je];simp only[qtc,qrq,if_false,Sem.run_bind,pure,Sem.run,Result.andThen_ok,hb];rw[qen]
   . cases hf
 . cases hf
theorem qmf {t e:Nat}(hu:P.underlying t=some (.slice e)){inf:TypeInfo}(hi2:P.info? e=some inf){sz:Nat}{rows:List (List AV)}{tok:Tok}(hsz:sz=inf.size\/rows=[])
 {x':Value} (hx:qj K (.sl sz rows tok) x')
 {lo hi mx:Option AV} {lo' hi' mx':Option Value} (hlo:∀ a,lo=some a->∃ v,lo'=some v/\qj K a v) (hlo0:lo=none->lo'=none)
 (hhi:∀ a,hi=some a->∃ v,hi'=some v/\qj K a v) (hhi0:hi=none->hi'=none) (hmx:∀ a,mx=some a->∃ v,mx'=some v/\qj K a v) (hmx0:mx=none->mx'=none)
 {v:AV} (hf:jg (.sl sz rows tok) lo hi mx=some v):∃ v',(Instr.sliceAt t x' lo' hi' mx').run P w=.ok v' w/\qj K v v':=by
 unfold jg at hf;simp only at hf;split at hf
 . rename_i l h el eh;split at hf
   . rename_i hc;obtain⟨c1,c2,c3,c4⟩:=hc;simp only[Option.some.injEq]at hf;subst hf;have hmm:∀ a,mx=some a->wx a=some h/\hi.isSome:=by
      intro a ha;subst ha;simpa[Jb] using c4
     simp only[qj]at hx;rcases hx with ⟨⟨a0,rfl,ha0⟩,rfl,htok⟩|⟨B,off,cap,rfl,hcap,hrows,htok⟩
     . have hb:=kg (P:=P) (w:=w) (K:=K) (isS:=true) (len:=0) (cap:=0) hlo hlo0 hhi hhi0 hmx hmx0 el (by simpa using eh) ⟨c1,c2,by simpa using c3⟩ (qrn _) hmm;have hl0:l.toNat=0:=(by simp at c3;omega);have hh0:h.toNat=0:=(by simp at c3;omega);rw[hl0,hh0]at hb;refine⟨.slice a0 0 0,?_,?_⟩
       . simp only[Instr.sliceAt,Instr.slice,Sem.run_bind,run_underlying hu,Result.andThen_ok,hb];cases a0<;>simp[sizeOf,typeInfo,hi2]
       . simp only[qj];refine .inl ⟨⟨a0,rfl,?_⟩,by simp,?_⟩
         . rcases ha0 with rfl|rfl
           . exact .inl rfl
           . refine .inr ?_;rw[hl0,hh0];cases mx<;>simp[kK,Tok.known]
         . rw[hl0,hh0];cases mx<;>cases tok<;>simp[kK,Tok.known,Tok.plain]<;>exact htok.elim
     . have hb:=kg (P:=P) (w:=w) (K:=K) (isS:=true) (len:=rows.length) (cap:=cap) hlo hlo0 hhi hhi0 hmx hmx0 el eh ⟨c1,c2,c3⟩ hcap hmm;have hln:l.toNat<=h.toNat:=(by omega);have hhn:h.toNat<=rows.length:=(by omega);have hM:h.toNat<=(if mx.isSome then h.toNat else cap):=(by split<;>omega);have hMc:(if mx.isSome then h.toNat else cap)<=cap:=(by split<;>omega);generalize hMe:(if mx.isSome then h.toNat else cap)=M at hb hM hMc;have hrl:((rows.take h.toNat).drop l.toNat).length=h.toNat-l.toNat:=(by simp;omega);refine⟨.slice (some ⟨B,if M=l.toNat then off else off+l.toNat*inf.size,none⟩) (h.toNat-l.toNat) (M-l.toNat),?_,?_⟩
       . simp only[Instr.sliceAt,Instr.slice,Sem.run_bind,run_underlying hu,Result.andThen_ok,hb];simp[sizeOf,typeInfo,hi2,j9];split<;>rfl
       . simp only[qj];refine .inr ⟨B,_,M-l.toNat,by rw[hrl],by rw[hrl];omega,?_,?_⟩
         . by_cases he:M=l.toNat
           . have:(rows.take h.toNat).drop l.toNat=[]:=qrU (by rw[hrl];omega);rw[this];simp[qW]
           . rw[if_neg he];rcases hsz with hsz|hsz
             . rw[<- hsz];exact qW.sub hrows _ _
             . subst hsz;simp[qW]
         . rw[hrl]
           cases hms:mx.isSome with
           | true=>
            rw[hms]at hMe;simp only[if_true]at hMe;simp only[if_true,kK];by_cases hcn:True/\(0<rows.length\/tok.known=true)
            . rw[if_pos hcn];simp only[Qq];omega
            . rw[if_neg hcn];trivial
           | false=>
            rw[hms]at hMe;simp only[qrq,if_false]at hMe;simp only[qrq,if_false,kK]
            cases tok with
            | none=>trivial
            | nil=>trivial
            | tight=>
             by_cases hn:h.toNat=rows.length
             . simp only[if_pos hn,Qq]at htok ⊢;omega
             . simp only[if_neg hn,Qq]
            | chain ct ck=>
             by_cases hn:l.toNat=0/\h.toNat=rows.length
             . simp only[if_pos hn];obtain⟨h01,h02⟩:=hn;rw[h01,h02];simp only[qsZ,qsz,qt6,ite_self,<- hMe];exact htok
             . simp only[if_neg hn,Qq]
   . cases hf
 . cases hf
theorem qmg {t e:Nat}(hu:P.underlying t=some (.slice e)){inf:TypeInfo}(hi2:P.info? e=some inf){b off len:Nat}
 {x':Value} (hx:qj K (.ms b off len inf.size) x')
 {lo hi mx:Option AV} {lo' hi' mx':Option Value} (hlo:∀ a,lo=some a->∃ v,lo'=some v/\qj K a v) (hlo0:lo=none->lo'=none)
 (hhi:∀ a,hi=some a->∃ v,hi'=some v/\qj K a v) (hhi0:hi=none->hi'=none) (hmx0:mx=none->mx'=none)
 {v:AV} (hf:jg (.ms b off len inf.size) lo hi mx=some v):∃ v',(Instr.sliceAt t x' lo' hi' mx').run P w=.ok v' w/\qj K v v':=by
 unfold jg at hf;simp only at hf;split at hf
 . rename_i l h el eh;split at hf
   . rename_i hc;obtain⟨c1,c2,c3,c4⟩:=hc;simp only[Option.some.injEq]at hf;subst hf;rw[hmx0 rfl];simp only[qj]at hx;obtain⟨B,cap,hm,rfl,hcap,hpos,hbs⟩:=hx;have hb:=kg (P:=P) (w:=w) (K:=K) (isS:=true) (len:=len) (cap:=cap) hlo hlo0 hhi hhi0 (mx:=none) (mx':=none) (by simp) (by simp) el eh ⟨c1,c2,c3⟩ hcap (by simp);simp only[qtc,qrq,if_false]at hb;have hne:¬ cap=l.toNat:=(by omega);refine⟨.slice (some ⟨B,off+l.toNat*inf.size,none⟩) (h.toNat-l.toNat) (cap-l.toNat),?_,?_⟩
     . simp only[Instr.sliceAt,Instr.slice,Sem.run_bind,run_underlying hu,Result.andThen_ok,hb];simp[sizeOf,typeInfo,hi2,j9,hne]
     . simp only[qj];refine⟨B,cap-l.toNat,hm,rfl,by omega,by omega,?_⟩;have:cap*inf.size=l.toNat*inf.size+(cap-l.toNat)*inf.size:=by rw[<- qrS];congr 1;omega
       omega
   . cases hf
 . cases hf
theorem qkm (h:WRel G w0 ro0 K O w){t:Nat}{x v:AV}{x':Value}(hx:qj K x x')(ty:Nat)(hf:kw (Dof P) O t x=some v) :
 ∃ v',(Builtin.len_ #[t] ty #[x']).run P w=.ok v' w/\qj K v v':=by
 unfold kw at hf;split at hf
 . rename_i i hD;obtain⟨inf,d,z,hi,hu,_,rfl⟩:=qB hD;simp only at hf;split at hf
   . rename_i s hd;have:=QD hd;subst this;simp only[Option.some.injEq]at hf;subst hf;simp only[qj]at hx;subst hx;exact⟨.int .i64 s.length,by simp[Builtin.len_,run_underlying hu,goInt,Je],by simp[qj]⟩
   . rename_i e sz rows tok hd;have:=Zr hd;subst this;simp only[Option.some.injEq]at hf;subst hf;simp only[qj]at hx;rcases hx with ⟨⟨a0,rfl,_⟩,rfl,_⟩|⟨B,off,cap,rfl,_⟩
     . exact⟨.int .i64 0,by simp[Builtin.len_,run_underlying hu,goInt],by simp[qj]⟩
     . exact⟨.int .i64 rows.length,by simp[Builtin.len_,run_underlying hu,goInt],by simp[qj]⟩
   . rename_i e b off len sz hd;have:=Zr hd;subst this;simp only[Option.some.injEq]at hf;subst hf;simp only[qj]at hx;obtain⟨B,cap,hm,rfl,_⟩:=hx;exact⟨.int .i64 len,by simp[Builtin.len_,run_underlying hu,goInt],by simp[qj]⟩
   . rename_i n e hd;have:=qca hd;subst this;simp only[Option.some.injEq]at hf;subst hf;exact⟨.int .i64 n,by simp[Builtin.len_,run_underlying hu,goInt],by simp[qj]⟩
   . rename_i k e hd;have:=Kq hd;subst this;simp only[Option.some.injEq]at hf;subst hf;simp only[qj]at hx;subst hx;exact⟨.int .i64 0,by simp[Builtin.len_,run_underlying hu,goInt],by simp[qj]⟩
   . rename_i k e b hd;have:=Kq hd;subst this;split at hf
     . rename_i es clock hb;simp only[Option.some.injEq]at hf;subst hf;simp only[qj]at hx;obtain⟨B,hm,rfl⟩:=hx;obtain⟨B',h1,_,_,⟨es',h4,h5,_⟩,_⟩:=h.blk b _ hb;rw[hm]at h1;cases h1;exact⟨.int .i64 es.length,by simp[Builtin.len_,run_underlying hu,goInt,getObj,Sem.run,h4,h5],by simp[qj]⟩
     . cases hf
   . cases hf
 . cases hf
theorem qke {x y v:AV}{x' y':Value}(hx:qj K x x')(hy:qj K y y')(ts:Array Nat)(ty:Nat)(hf:YP x y=some v) :
 ∃ v',(Builtin.min_ ts ty #[x',y']).run P w=.ok v' w/\qj K v v':=by
 unfold YP at hf;split at hf
 . rename_i k a k' b;simp only[Option.some.injEq]at hf;subst hf;simp only[qj]at hx hy;subst hx;subst hy;exact⟨.int k (if b<a then b else a),by simp[Builtin.min_,Builtin.min2],by simp[qj]⟩
 . cases hf
theorem qkf {x y v:AV}{x' y':Value}(hx:qj K x x')(hy:qj K y y')(ts:Array Nat)(ty:Nat)(hf:qa6 x y=some v) :
 ∃ v',(Builtin.max_ ts ty #[x',y']).run P w=.ok v' w/\qj K v v':=by
 unfold qa6 at hf;split at hf
 . rename_i k a k' b;simp only[Option.some.injEq]at hf;subst hf;simp only[qj]at hx hy;subst hx;subst hy;exact⟨.int k (if b > a then b else a),by simp[Builtin.max_,Builtin.max2],by simp[qj]⟩
 . cases hf
end
end
section
section
variable {P:Program}{G:Nat->AV}{w0:World}{ro0:Nat->Nat->Option Value}{K:Kn}{O:St}{w w':World}
theorem YK (t ty e el:TypeId)(i:TypeInfo)(ht:P.underlying t=some (.slice e))(hi:P.info? e=some i)
 (g sLen sCap:Nat) (cur:Array Value) (hg:w.heap[g]?=some (.cells cur el (0,0)))
 (a:Addr) (m c:Nat) (news:List Value) (hl:news.length=m*i.size) (hnews:∀ (j:Nat) (u:Value),news[j]?=some u->w.cell? (a.add j)=some u) (h1:∀ u∈news,u.oneCell'=true)
 (hroom:sLen+m<=sCap) (hfit:sLen*i.size+news.length<=cur.size) :
 (Builtin.append_ #[t,t] ty #[.slice (some ⟨g,0,none⟩) sLen sCap,.slice (some a) m c]).run P w =
   .ok (.slice (some ⟨g,0,none⟩) (sLen+m) sCap) (w.setRow g (cur.toList.take (sLen*i.size)++news++cur.toList.drop (sLen*i.size+news.length)).toArray):=by
 have hf:=run_firstCells_some (P:=P) w i.size m a m c news hl hnews;have hst:=run_storeCells_at P g (sLen*i.size) el news 0 cur w hg (by simpa using hfit) h1;simp only[qsz]at hst;simp[Builtin.append_,run_underlying ht,sizeOf,typeInfo,hi,Builtin.lenOf,hroom,hf,Addr.add_lit,hst]
theorem QE (h:WRel G w0 ro0 K O w){B off sz:Nat}{rows:List (List AV)}(hr:qW K B off sz rows) :
 ∃ vs:List Value,qk K rows.flatten vs/\vs.length=rows.length*sz/\(∀ (j:Nat) (v:Value),vs[j]?=some v->w.cell? ((⟨B,off,none⟩:Addr).add j)=some v) /\
  rows.flatten.all AV.atom=true/\∀ v∈vs,v.oneCell'=true:=by
 obtain⟨f1,f2,f3⟩:=qW.flat B sz rows off hr;obtain⟨vs,g1,g2⟩:=qiH.of_cellsAt h.ro B _ off f1;exact⟨vs,g1,by rw[g1.length,f2],fun j v e=>by rw[j9];exact g2 j v e,f3,g1.oneCells f3⟩
theorem qaK {B off sz:Nat}{rows:List (List AV)}(hr:qW K B off sz rows):∀ r∈rows,r.length=sz:=by
 intro r hx;obtain⟨i,hi⟩:=qr3 hx;exact (qW.get B sz rows off hr i r hi).1
theorem qc4 {B' sz k t n newCap:Nat}{rows:List (List AV)}{vs:List Value}{K':Kn}(hv:qk K rows.flatten vs)(hl:vs.length=rows.length*sz)(hrl:∀ r∈rows,r.length=sz)(hat:rows.flatten.all AV.atom=true)
 (hle:K.le K') (hro:∀ (j:Nat) (v:Value),vs[j]?=some v->K'.ro B' j=some v) (hcap:rows.length<=newCap) (ht:t<K'.nch) (C:Chn) (hC:K'.ch t=some C) (hCk:C.k=k) (hCB:C.B=B') (hCs:C.sz=sz)
 (hCf:C.fin=vs.length) (hCc:C.cap=newCap*sz):qj K' (.sl sz rows (.chain t k)) (.slice (some ⟨B',0,none⟩) rows.length newCap):=by
 simp only[qj];refine .inr ⟨B',0,newCap,rfl,hcap,QF rows 0 hrl hat (qp.intro B' _ 0 fun i a e=>?_),?_⟩
 . obtain⟨v,e1,e2⟩:=hv.get i a e;exact⟨v,by simpa using hro i v e1,e2.mono hle⟩
 . refine⟨ht,fun C' hC'=>?_⟩;rw[hC]at hC';cases hC';exact⟨by omega,fun _=>⟨hCB,hCs,rfl,by rw[hCf,hl],hCc.symm⟩⟩
theorem qdV (h:WRel G w0 ro0 K O w){t:Nat}{s x v:AV}{s' x':Value}(hs:qj K s s')(hx:qj K x x')(ty:Nat){O':St}(hf:qt (Dof P) O t s x=some (v,O')) :
 Ran P G w0 ro0 K w (Builtin.append_ #[t,t] ty #[s',x']) v O':=by
 unfold qt at hf;split at hf
 . rename_i i sz rows tok sz2 rows2 hD hro;obtain⟨inf,d,z,hi,hu,_,rfl⟩:=qB hD;simp only at hf;split at hf
   . rename_i e hd;have hd':=Zr hd;subst hd';split at hf
     . rename_i j hj;obtain⟨inf2,d2,z2,hi2,hu2,hz2,rfl⟩:=qB hj;simp only at hf;split at hf
       . rename_i hc;obtain⟨hc1,hc2,hc3,hc4,hc5,hc6⟩:=hc;have hzs:z2.cells.size=inf2.size:=(by simpa using hc4);cases x<;>simp only[zD]at hro<;>try (cases hro;done)
         rename_i szx rowsx tokx;simp only[Option.some.injEq,Prod.mk.injEq]at hro;obtain⟨rfl,rfl⟩:=hro;split at hf
         . -- nothing is appended
           rename_i hn;subst hn;simp only[Option.some.injEq,Prod.mk.injEq]at hf;obtain⟨rfl,rfl⟩:=hf;refine Ran.same h (v':=s') ?_ hs;have hx0:∃ bx cx,x'=.slice bx 0 cx:=by
            simp only[qj]at hx;rcases hx with ⟨⟨a0,rfl,_⟩,_⟩|⟨B2,off2,cap2,rfl,_⟩
            . exact⟨_,_,rfl⟩
            . exact⟨_,_,rfl⟩
           obtain⟨bx,cx,rfl⟩:=hx0;have hf0:(Builtin.firstCells inf2.size 0 (.slice bx 0 cx)).run P w=.ok #[] w:=by
            cases bx<;>simp[Builtin.firstCells,loadCells,loadCellsFrom]
           simp only[qj]at hs;rcases hs with ⟨⟨a0,rfl,_⟩,rfl,_⟩|⟨B,off,cap,rfl,hcap,_⟩
           . cases a0<;>simp[storeCells,Builtin.append_,run_underlying hu,sizeOf,typeInfo,hi2,Builtin.lenOf,hf0]
           . simp[Builtin.append_,run_underlying hu,sizeOf,typeInfo,hi2,Builtin.lenOf,hcap,hf0,storeCells]
         . rename_i hn;have hnpos:0<rowsx.length:=qrH.2 hn;have hszx:szx=inf2.size:=hc2.resolve_right hn;subst hszx;simp only[qj]at hx;rcases hx with ⟨_,rfl,_⟩|⟨B2,off2,cap2,rfl,hcap2,hrows2,_⟩
           . exact absurd rfl hn
           obtain⟨news,n1,n2,n3,n4,n5⟩:=QE h hrows2;have hn48:rowsx.length*inf2.bytes<=140737488355328:=by
            calc rowsx.length*inf2.bytes<=1073741824*65536:=qsw (by omega) hc5
             _<=140737488355328:=by omega
           have hb48:(rows.length+rowsx.length)*inf2.bytes<=140737488355328:=by
            calc (rows.length+rowsx.length)*inf2.bytes<=1073741824*65536:=qsw hc6 hc5
             _<=140737488355328:=by omega
           have rl2:=qaK hrows2
           -- growth into a new block,from whatever is there
           have grow:∀ (olds:List Value) (tt k n:Nat) (T':List (Option Nat)),qk K rows.flatten olds->olds.length=rows.length*inf2.size->(∀ r∈rows,r.length=inf2.size)->rows.flatten.all AV.atom=true ->
            (∀ u k',T'[u]?=some (some k')->(u=tt/\k'=k)\/(u≠tt/\O.T[u]?=some (some k')))->T'[tt]?=some (some k)->(∀ u C,u≠tt->K.ch u=some C->∃ k',T'[u]?=some (some k'))->n=T'.length->K.nch<=n->tt<n ->
            (tt<K.nch->∃ C,K.ch tt=some C/\C.k<k)->∀ old:Nat,
            ∃ K',K.le K'/\WRel G w0 ro0 K' { O with T:=T' } (w.drew.alloc (.cells (olds.toArray++news.toArray++Builtin.zeroCells z2.cells (grownCap w (rows.length+rowsx.length) old e-(rows.length+rowsx.length))) e)) /\
             qj K' (.sl inf2.size (rows++rowsx) (.chain tt k)) (.slice (some ⟨w.heap.size,0,none⟩) (rows.length+rowsx.length) (grownCap w (rows.length+rowsx.length) old e)):=by
            intro olds tt k n T' o1 o2 rl1 oa hT hTt hTk hn' hnch htn hk old;have hge:=grownCap_ge w (rows.length+rowsx.length) old e;generalize hcapN:grownCap w (rows.length+rowsx.length) old e=newCap at hge;have hsize:(olds.toArray++news.toArray++Builtin.zeroCells z2.cells (newCap-(rows.length+rowsx.length))).size=newCap*inf2.size:=by
             simp only[qtB,qtC,size_zeroCells,hzs,o2,n2,<- qrS];congr 1;omega
            have hvl:(olds++news).length=(rows++rowsx).length*inf2.size:=(by simp[o2,n2,qrS]);obtain⟨w1,w2⟩:=h.drew.chainNew (olds++news) (olds.toArray++news.toArray++Builtin.zeroCells z2.cells (newCap-(rows.length+rowsx.length))) e
             (fun j v ev=>by
               have hjl:=(qqV.1 ev).1;rw[qs4 (by simpa using hjl),<- ev];simp) tt k n T' hT hTt hTk hn' hnch hk inf2.size (by
                rw[hsize,hvl];simp only[qqY];exact qrJ _ hge)
            refine⟨_,w2,w1,?_⟩;have:=qc4 (K:=K) (B':=w.heap.size) (sz:=inf2.size) (k:=k) (t:=tt) (n:=n) (newCap:=newCap) (rows:=rows++rowsx) (vs:=olds++news)
             (by rw[qst];exact o1.append n1) hvl (fun r hr=>by rcases qre.1 hr with hr | hr;exact rl1 r hr;exact rl2 r hr) (by rw[qst,qsB,oa,n4];rfl)
             w2 (fun j v ev=>by
              have hjl:=(qqV.1 ev).1;show (if w.drew.heap.size=w.drew.heap.size/\0<=j/\j<0+(olds++news).length then (olds++news)[j-0]? else K.ro w.heap.size j)=some v;rw[if_pos ⟨rfl,by omega,by omega⟩];exact ev) (by simpa using hge) htn ⟨k,w.heap.size,(olds++news).length,(olds.toArray++news.toArray++Builtin.zeroCells z2.cells (newCap-(rows.length+rowsx.length))).size,inf2.size⟩ (if_pos rfl) rfl rfl rfl rfl hsize
            simpa using this
           split at hf
           . cases hf
           . -- the nil slice
             simp only[Option.some.injEq,Prod.mk.injEq]at hf;obtain⟨rfl,rfl⟩:=hf;simp only[qj]at hs;rcases hs with ⟨⟨a0,rfl,ha0⟩,rfl,_⟩|⟨B,off,cap,rfl,hcap,hrows,htok⟩
             . obtain rfl:=ha0.resolve_right (by simp);obtain⟨K',k1,k2,k3⟩:=grow [] O.T.length rowsx.length (O.T.length+1) (O.T++[some rowsx.length]) (by simp[qk]) (by simp) (by simp) (by simp)
                (fun u k' eu=>by
                  rw[qrO]at eu;split at eu
                  . rename_i hu';exact .inr ⟨by omega,eu⟩
                  . rename_i hu';have:u-O.T.length=0:=by
                     rcases qsn (u-O.T.length) with h0|h0
                     . exact h0
                     . rw[qry (by simp;omega)]at eu;cases eu
                    rw[this]at eu;simp at eu;exact .inl ⟨by omega,eu.symm⟩)
                (by simp) (fun u C hu' hC=>by obtain⟨k',hk'⟩:=h.chd u C hC;exact⟨k',by rw[qrc (qqV.1 hk').1];exact hk'⟩) (by simp) (by rw[h.nch];omega) (by omega) (fun hlt=>by rw[h.nch]at hlt;omega) 0
               have hr:=run_append_nil (P:=P) w t ty e inf2 z2 hu hi2 hz2 ⟨B2,off2,none⟩ rowsx.length cap2 news n2 n3 hnpos (by omega) (by omega);simp only[qrt,qsh,qrh,Array.empty_append]at k2 k3;exact⟨_,_,K',hr,k1,k2,k3⟩
             . simp only[Qq]at htok
           . -- no spare room
             simp only[Option.some.injEq,Prod.mk.injEq]at hf;obtain⟨rfl,rfl⟩:=hf;have hT1:∀ u k',(O.T++[some rowsx.length])[u]?=some (some k')->(u=O.T.length/\k'=rowsx.length)\/(u≠O.T.length/\O.T[u]?=some (some k')):=fun u k' eu=>by
              rw[qrO]at eu;split at eu
              . rename_i hu';exact .inr ⟨by omega,eu⟩
              . rename_i hu';have:u-O.T.length=0:=by
                 rcases qsn (u-O.T.length) with h0|h0
                 . exact h0
                 . rw[qry (by simp;omega)]at eu;cases eu
                rw[this]at eu;simp at eu;exact .inl ⟨by omega,eu.symm⟩
             have hT2:∀ u C,u≠O.T.length->K.ch u=some C->∃ k',(O.T++[some rowsx.length])[u]?=some (some k'):=fun u C hu' hC=>by
              obtain⟨k',hk'⟩:=h.chd u C hC;exact⟨k',by rw[qrc (qqV.1 hk').1];exact hk'⟩
             simp only[qj]at hs;rcases hs with ⟨⟨a0,rfl,ha0⟩,rfl,_⟩|⟨B,off,cap,rfl,hcap,hrows,htok⟩
             . obtain rfl:=ha0.resolve_right (by simp);obtain⟨K',k1,k2,k3⟩:=grow [] O.T.length rowsx.length (O.T.length+1) (O.T++[some rowsx.length]) (by simp[qk]) (by simp) (by simp) (by simp) hT1
                (by simp) hT2 (by simp) (by rw[h.nch];omega) (by omega) (fun hlt=>by rw[h.nch]at hlt;omega) 0
               have hr:=run_append_nil (P:=P) w t ty e inf2 z2 hu hi2 hz2 ⟨B2,off2,none⟩ rowsx.length cap2 news n2 n3 hnpos (by omega) (by omega);simp only[qrt,qsh,qrh,Array.empty_append]at k2 k3;exact⟨_,_,K',hr,k1,k2,k3⟩
             . simp only[Qq]at htok;subst htok;have hrl1:∀ r∈rows,r.length=sz:=qaK hrows;obtain⟨olds,o1,o2,o3,o4,o5⟩:=QE h hrows;have hszr:sz=inf2.size\/rows=[]:=hc1;have o2':olds.length=rows.length*inf2.size:=by
                rcases hszr with rfl|hr0
                . exact o2
                . subst hr0;simpa using o2
               have hrl1':∀ r∈rows,r.length=inf2.size:=by
                rcases hszr with rfl|hr0
                . exact hrl1
                . subst hr0;simp
               obtain⟨K',k1,k2,k3⟩:=grow olds O.T.length rowsx.length (O.T.length+1) (O.T++[some rowsx.length]) o1 o2' hrl1' o4 hT1
                (by simp) hT2 (by simp) (by rw[h.nch];omega) (by omega) (fun hlt=>by rw[h.nch]at hlt;omega) rows.length
               have hr:=run_append_grow (P:=P) w t ty e inf2 z2 hu hi2 hz2 ⟨B,off,none⟩ rows.length rows.length olds o2' o3 ⟨B2,off2,none⟩ rowsx.length cap2 news n2 n3 (by omega) (by omega) (growslice_fits (by omega) hb48);exact⟨_,_,K',hr,k1,k2,k3⟩
           . -- a row with a free end
             rename_i ct ck;split at hf
             . rename_i hct;obtain⟨hszr,hct⟩:=hct;subst hszr;simp only[Option.some.injEq,Prod.mk.injEq]at hf;obtain⟨rfl,rfl⟩:=hf;simp only[qj]at hs;rcases hs with ⟨_,_,hpl⟩|⟨B,off,cap,rfl,hcap,hrows,htok⟩
               . exact hpl.elim
               . obtain⟨ht1,ht2⟩:=htok;obtain⟨C,c1,c2,c3,c4,⟨cs,el,c5,c6⟩,c7,c8⟩:=h.ch ct ck hct;obtain⟨_,t2⟩:=ht2 C c1;obtain⟨t3,t4,t5,t6,t7⟩:=t2 c2.symm;have hctl:ct<O.T.length:=(qqV.1 hct).1;subst t5;have hrl1:∀ r∈rows,r.length=inf2.size:=qaK hrows;obtain⟨olds,o1,o2,o3,o4,o5⟩:=QE h hrows;by_cases hroom:rows.length+rowsx.length<=cap
                 . have hB:C.B=B:=t3;subst hB;have hmul:rows.length*inf2.size+rowsx.length*inf2.size<=cap*inf2.size:=(by rw[<- qrS];exact qrJ _ hroom);have hr:=YK (P:=P) (w:=w) t ty e el inf2 hu hi2 C.B rows.length cap cs c5 ⟨B2,off2,none⟩ rowsx.length cap2 news n2 n3 n5 hroom (by rw[n2,c6];omega);have hcsl:cs.toList.length=C.cap:=(by simpa using c6);have hmin:min (rows.length*inf2.size) cs.toList.length=rows.length*inf2.size:=(by omega);obtain⟨w1,w2⟩:=h.chainIn c1 (by rw[hct]) news (cs.toList.take (rows.length*inf2.size)++news++cs.toList.drop (rows.length*inf2.size+news.length)).toArray el (ck+rowsx.length) (by omega)
                    (w':=w.setRow C.B (cs.toList.take (rows.length*inf2.size)++news++cs.toList.drop (rows.length*inf2.size+news.length)).toArray) rfl rfl rfl (by simp[World.setRow]) (fun j hj=>setRow_other w C.B j _ hj)
                    (setRow_heap w C.B cs _ el _ c5) (by simp only[qtC,qqY,qrT,qtO,hmin,n2];omega) (by rw[n2];omega)
                    (fun j v ev=>by
                      have hjl:=(qqV.1 ev).1;rw[qsI,qri,qro (by simp only[qrT,hmin];omega),qrc (by simp only[qrT,hmin];omega)];simp only[qrT,hmin,<- t6];rw[show rows.length*inf2.size+j-rows.length*inf2.size=j by omega];exact ev)
                    (fun cs2 el2 e2 j hj=>by
                      rw[c5]at e2;cases e2;rw[qsI,qri,qrc (by simp only[qrT,hmin];omega),qrL,if_pos (by omega)];simp)
                   refine⟨_,_,_,hr,w2,w1,?_⟩;have hro:∀ (j:Nat) (u:Value),(olds++news)[j]?=some u->((K.addRo C.B C.fin news).setCh ct ⟨ck+rowsx.length,C.B,C.fin+news.length,C.cap,C.sz⟩ K.nch).ro C.B j=some u:=by
                    intro j u eu;show (if C.B=C.B/\C.fin<=j/\j<C.fin+news.length then news[j-C.fin]? else K.ro C.B j)=some u;rw[qrO]at eu;split at eu
                    . rename_i hjl;rw[if_neg (by omega)];have hcol:=qW.flat C.B inf2.size rows 0 hrows;obtain⟨a0,ha0⟩:∃ a0,rows.flatten[j]?=some a0:=⟨_,qq6 (by rw[<- o1.length];exact hjl)⟩;obtain⟨v0,e0,_⟩:=qp.get C.B _ 0 hcol.1 j a0 ha0;have hc0:=h.ro _ _ _ e0;have hu0:=o3 j u eu;rw[j9]at hu0;rw[hu0]at hc0;rw[hc0];simpa using e0
                    . rename_i hjl;have hjl2:=(qqV.1 eu).1;rw[if_pos ⟨rfl,by omega,by omega⟩,<- t6,<- o2];exact eu
                   have hvl:(olds++news).length=(rows++rowsx).length*inf2.size:=(by simp[o2,n2,qrS]);have:=qc4 (K:=K) (B':=C.B) (sz:=inf2.size) (k:=ck+rowsx.length) (t:=ct) (n:=0) (newCap:=cap) (rows:=rows++rowsx) (vs:=olds++news)
                    (by rw[qst];exact o1.append n1) hvl (fun r hr=>by rcases qre.1 hr with hr | hr;exact hrl1 r hr;exact rl2 r hr) (by rw[qst,qsB,o4,n4];rfl)
                    w2 hro (by simpa using hroom) (by show ct<K.nch;rw[h.nch];exact hctl) ⟨ck+rowsx.length,C.B,C.fin+news.length,C.cap,C.sz⟩ (if_pos rfl) rfl rfl t4
                    (by simp only[qqY,o2,t6]) (by simp only[<- t7])
                   simpa using this
                 . obtain⟨K',k1,k2,k3⟩:=grow olds ct (ck+rowsx.length) O.T.length (O.T.set ct (some (ck+rowsx.length))) o1 o2 hrl1 o4
                    (fun u k' eu=>by
                      by_cases hu':u=ct
                      . subst hu';simp[hctl]at eu;exact .inl ⟨rfl,eu.symm⟩
                      . rw[qqX (Ne.symm hu')]at eu;exact .inr ⟨hu',eu⟩)
                    (by simp[hctl]) (fun u C' hu' hC'=>by obtain⟨k',hk'⟩:=h.chd u C' hC';exact⟨k',by rw[qqX (Ne.symm hu')];exact hk'⟩) (by simp) (by rw[h.nch];omega) hctl
                    (fun _=>⟨C,c1,by omega⟩) cap
                   have hr:=run_append_grow (P:=P) w t ty e inf2 z2 hu hi2 hz2 ⟨B,0,none⟩ rows.length cap olds o2 o3 ⟨B2,off2,none⟩ rowsx.length cap2 news n2 n3 (by omega) (by omega) (growslice_fits (by omega) hb48);exact⟨_,_,K',hr,k1,k2,k3⟩
             . cases hf
       . cases hf
     . cases hf
   . cases hf
 . cases hf
end
end
section
section
variable {P:Program}{G:Nat->AV}{w0:World}{ro0:Nat->Nat->Option Value}{K:Kn}{O:St}{w w':World}
theorem Vq {n:Int}(h0:0<=n)(h1:n<=1073741824):IntKind.i64.wrap n=n:=by
 have:n % 18446744073709551616=n:=Int.emod_eq_of_lt h0 (by omega);simp only[IntKind.wrap,IntKind.bits,IntKind.signed,qsi];simp only[show ((2:Int) ^ (64:Nat))=18446744073709551616 from rfl,show ((2:Int) ^ ((64:Nat)-1))=9223372036854775808 from rfl,this];rw[if_neg (by simp;omega)]
theorem T_push {T:List (Option Nat)}{n:Nat}(u k':Nat)(eu:(T++[some n])[u]?=some (some k')):(u=T.length/\k'=n)\/(u≠T.length/\T[u]?=some (some k')):=by
 rw[qrO]at eu;split at eu
 . rename_i hu';exact .inr ⟨by omega,eu⟩
 . rename_i hu';have:u-T.length=0:=by
    rcases qsn (u-T.length) with h0|h0
    . exact h0
    . rw[qry (by simp;omega)]at eu;cases eu
   rw[this]at eu;simp at eu;exact .inl ⟨by omega,eu.symm⟩
theorem Wc (h:WRel G w0 ro0 K O w){t:Nat}{l c v:AV}{l' c':Value}(hl:qj K l l')(hc:qj K c c'){O':St}(hf:je (Dof P) O t l c=some (v,O')) :
 Ran P G w0 ro0 K w (Instr.makeSlice t l' c') v O':=by
 unfold je at hf;split at hf
 . rename_i i ln cn hD hln hcn;obtain⟨inf,d,z,hi,hu,_,rfl⟩:=qB hD;obtain⟨k1,rfl⟩:=y9 hln hl;obtain⟨k2,rfl⟩:=y9 hcn hc;simp only at hf;split at hf
   . rename_i e hd;have hd':=Zr hd;subst hd';split at hf
     . rename_i j hj;obtain⟨inf2,d2,z2,hi2,hu2,hz2,rfl⟩:=qB hj;simp only at hf;split at hf
       . rename_i hcond;obtain⟨b1,b2,b3,b4,b5,b6,b7⟩:=hcond;have hzs:z2.cells.size=inf2.size:=(by simpa using b6);have hwl:IntKind.i64.wrap ln=ln:=Vq b1 (by omega);have hwc:IntKind.i64.wrap cn=cn:=Vq (by omega) b3;have hcb:cn.toNat*inf2.bytes<=70368744177664:=by
          calc cn.toNat*inf2.bytes<=1073741824*65536:=qsw (by omega) b4
           _<=70368744177664:=by omega
         have hcb':(inf2.bytes:Int)*cn<=70368744177664:=by
          have:((cn.toNat*inf2.bytes:Nat):Int)<=((70368744177664:Nat):Int):=Int.ofNat_le.2 hcb;rw[qs9,Int.toNat_of_nonneg (by omega),Int.mul_comm]at this;exact this
         have hlarge:¬ (281474976710656<(inf2.bytes:Int)*cn):=(by omega);have hn0:∀ n:Nat,n*inf2.size=0↔n=0:=by
          intro n;rw[Nat.mul_eq_zero];omega
         have hrun:(Instr.makeSlice t (.int k1 ln) (.int k2 cn)).run P w=.ok (.slice (some ⟨w.heap.size,0,none⟩) ln.toNat cn.toNat)
          (w.alloc (.cells ((Array.range (cn.toNat*inf2.size)).map (fun j=>(if cn.toNat*inf2.size=0 then #[] else z2.cells)[j % (if cn.toNat*inf2.size=0 then #[] else z2.cells).size]!)) e)):=by
          simp only[Instr.makeSlice,Sem.run_bind,run_underlying hu,Result.andThen_ok];have hnot:¬ (cn<0):=(by omega);have hnl:¬ (ln<0):=(by omega);have hnc:¬ (ln > cn):=(by omega);have hroom:¬ (cn.toNat*inf2.bytes > roomBytes):=(by simp only[roomBytes];omega);by_cases hz:cn.toNat*inf2.size=0
          . simp[asInt,asIntOf,typeInfo,hi2,hwl,hwc,hlarge,hnot,hnl,hnc,askRoom,sizeOf,zeroValue,hz2,newRow,hz]
          . simp[asInt,asIntOf,typeInfo,hi2,hwl,hwc,hlarge,hnot,hnl,hnc,askRoom,sizeOf,zeroValue,hz2,newRow,hz]
         split at hf
         . rename_i hl0;subst hl0;simp only[Option.some.injEq,Prod.mk.injEq]at hf;obtain⟨rfl,rfl⟩:=hf;obtain⟨w1,w2⟩:=h.chainNew [] ((Array.range (cn.toNat*inf2.size)).map (fun j=>(if cn.toNat*inf2.size=0 then #[] else z2.cells)[j % (if cn.toNat*inf2.size=0 then #[] else z2.cells).size]!)) e (by simp)
            O.T.length 0 (O.T.length+1) (O.T++[some 0]) T_push (by simp)
            (fun u C hu' hC=>by obtain⟨k',hk'⟩:=h.chd u C hC;exact⟨k',by rw[qrc (qqV.1 hk').1];exact hk'⟩) (by simp) (by rw[h.nch];omega)
            (fun hlt=>by rw[h.nch]at hlt;omega) inf2.size (by simp)
           refine⟨_,_,_,hrun,w2,w1,?_⟩;simp only[qj];refine .inr ⟨w.heap.size,0,cn.toNat,rfl,by simp,by simp[qW],?_⟩;refine⟨by show O.T.length<O.T.length+1;omega,fun C hC=>?_⟩;have:C=⟨0,w.heap.size,0,cn.toNat*inf2.size,inf2.size⟩:=by
            simp[Kn.setCh]at hC;exact hC.symm
           subst this;exact⟨qrn _,fun _=>⟨rfl,rfl,rfl,by simp,rfl⟩⟩
         . rename_i hl0;simp only[Option.some.injEq,Prod.mk.injEq]at hf;obtain⟨rfl,rfl⟩:=hf;have hcpos:¬ cn.toNat*inf2.size=0:=(by rw[hn0];omega);rw[if_neg hcpos]at hrun;have hz0:=Z6 (K:=K) (z:=z2) (n:=cn.toNat) (by omega);rw[hzs]at hz0;refine⟨_,_,K.addM O.H.length w.heap.size (kD _),hrun,Kn.le_addM h _ _,h.push ?_,?_⟩
           . refine⟨_,e,rfl,?_,?_,?_⟩
             . rw[qq7];intro x hx;obtain⟨l,hl1,hl2⟩:=qth.1 hx;rw[(qsU.1 hl1).2]at hl2;rw[qq7]at b7;exact b7 x hl2
             . have:ln.toNat*inf2.size<=cn.toNat*inf2.size:=qrJ _ (by omega);simp[hzs];exact this
             . intro j a ea;have hjl:j<ln.toNat*inf2.size:=by
                have:=(qqV.1 ea).1;simpa[hzs] using this
               have hle:ln.toNat*inf2.size<=cn.toNat*inf2.size:=qrJ _ (by omega);have hzl:(z2.cells.toList.map ofAtom).length=inf2.size:=(by simp[hzs]);rw[j5 _ _ _ (by rw[hzl];exact hjl)]at ea;have e2:((List.replicate cn.toNat (z2.cells.toList.map ofAtom)).flatten)[j]?=some a:=by
                rw[j5 _ _ _ (by rw[hzl];omega)];exact ea
               obtain⟨v,e3,e4⟩:=hz0.get j a e2;refine⟨v,?_,e4⟩;rw[<- Array.getElem?_toList,hzs];exact e3
           . simp only[qj];exact⟨w.heap.size,cn.toNat,by simp[Kn.addM],rfl,by omega,by omega,by simp[Kn.addM,kD,hzs]⟩
       . cases hf
     . cases hf
   . cases hf
 . cases hf
theorem qa7 (h:WRel G w0 ro0 K O w)(t:Nat):Ran P G w0 ro0 K w (Instr.makeMap t none) (.map O.H.length) (O.push (.map [] 0)):=by
 refine⟨.map (some w.heap.size),w.alloc (.map #[] 0),K.addM O.H.length w.heap.size (kD _),?_,Kn.le_addM h _ _,h.push ?_,?_⟩
 . simp[Instr.makeMap]
 . exact⟨#[],rfl,rfl,by simp⟩
 . simp only[qj];exact⟨w.heap.size,by simp[Kn.addM],rfl⟩
theorem wD {k:Nat}{v:AV}(h:jc (Dof P) k v=true):(∃ kd kk n,P.underlying k=some (.int kd)/\v=.int kk n)\/(∃ s,P.underlying k=some .string/\v=.str s):=by
 unfold jc at h;split at h
 . rename_i i hD;obtain⟨inf,d,z,hi,hu,_,rfl⟩:=qB hD;simp only at h;split at h
   . rename_i kd kk n hd;exact .inl ⟨kd,kk,n,by rw[hu,Ys hd],rfl⟩
   . rename_i s hd;exact .inr ⟨s,by rw[hu,QD hd],rfl⟩
   . cases h
 . cases h
theorem YG {k:Nat}{v:AV}{v':Value}(h:jc (Dof P) k v=true)(hv:qj K v v')(b:Bool):(Instr.checkKey b 10000 k v').run P w=.ok () w:=by
 have e:Instr.checkKey b 10000 k v'=Instr.checkKey b (9999+1) k v':=rfl;rw[e,Instr.checkKey];generalize 9999=m;rcases wD h with ⟨kd,kk,n,hu,rfl⟩|⟨s,hu,rfl⟩<;>simp only[qj]at hv<;>subst hv<;>simp[run_underlying hu]
theorem qjh (a b:List UInt8):((⟨a.toArray⟩:ByteArray) == ⟨b.toArray⟩)=(a==b):=by
 rw[beq_toListBytes,kB,kB]
theorem wS {k:Nat}{x:AV}{x':Value}(hk:jc (Dof P) k x=true)(hx:qj K x x'):∀ (es:List (AV×AV×Nat)) (es':List MapEntry) (i:Nat) (r:Option (Nat×AV)),es'.length=es.length ->
 (∀ (j:Nat) (k v:AV) (b:Nat),es[j]?=some (k,v,b)->∃ e:MapEntry,es'[j]?=some e/\qj K k e.key/\qj K v e.val/\e.born=b)->wo x es i=some r ->
 ∃ d r',P.underlying k=some d/\Instr.findNow d x' es' i=some r'/\(match r with
  | some (j,v)=>∃ v',r'=some (j,v')/\qj K v v'/\i<=j/\∃ e:MapEntry,es'[j-i]?=some e/\Instr.sameBits 10000 e.key x'=true
  | none=>r'=none)
 | [],[],i,r,_,_,hf=>by
  simp[wo]at hf;subst hf;rcases wD hk with ⟨kd,kk,n,hu,rfl⟩|⟨s,hu,rfl⟩
  . exact⟨_,none,hu,rfl,rfl⟩
  . exact⟨_,none,hu,rfl,rfl⟩
 | [],_::_,i,r,hl,_,hf=>by simp at hl
 | _::_,[],i,r,hl,_,hf=>by simp at hl
 | (k1,v1,b1)::es,e1::es',i,r,hl,he,hf=>by
  obtain⟨e0,h1,h2,h3,h4⟩:=he 0 k1 v1 b1 (by simp);simp at h1;subst h1;have ih:=wS hk hx es es' (i+1);simp only[wo]at hf;have same:∀ p,Qv x k1=some p->∀ d,P.underlying k=some d->Instr.sameNow d x' e1.key=some p/\(p=true->Instr.sameBits 10000 e1.key x'=true):=by
   intro p hp d hd;rcases wD hk with ⟨kd,kk,n,hu,rfl⟩|⟨s,hu,rfl⟩
   . rw[hu]at hd;cases hd;cases k1<;>simp only[Qv]at hp<;>try (cases hp;done)
     split at hp
     . rename_i hkk;subst hkk;simp only[Option.some.injEq]at hp;simp only[qj]at hx h2;rw[hx,h2];refine⟨by simp[Instr.sameNow,hp],fun ht=>?_⟩;rw[ht]at hp;have:n=_:=eq_of_beq hp;simp[Instr.sameBits,this]
     . cases hp
   . rw[hu]at hd;cases hd;cases k1<;>simp only[Qv]at hp<;>try (cases hp;done)
     simp only[Option.some.injEq]at hp;simp only[qj]at hx h2;rw[hx,h2];refine⟨by simp[Instr.sameNow,qjh,hp],fun ht=>?_⟩;rw[ht]at hp;have:s=_:=eq_of_beq hp;simp[Instr.sameBits,qjh,this]
  split at hf
  . rename_i hke;simp only[Option.some.injEq]at hf;subst hf;rcases wD hk with ⟨kd,kk,n,hu,_⟩|⟨s,hu,_⟩
    all_goals
     obtain⟨s1,s2⟩:=same true hke _ hu;refine⟨_,some (i,e1.val),hu,by simp only[Instr.findNow,s1],e1.val,rfl,h3,qrn _,e1,by simp,s2 rfl⟩
  . rename_i hke;obtain⟨d,r',g1,g2,g3⟩:=ih r (by simpa using hl) (fun j k v b e=>by simpa using he (j+1) k v b (by simpa using e)) hf;obtain⟨s1,_⟩:=same false hke d g1;refine⟨d,r',g1,by simp only[Instr.findNow,s1];exact g2,?_⟩
    cases r with
    | none=>exact g3
    | some jv=>
     obtain⟨j,v⟩:=jv;obtain⟨v',a1,a2,a3,e,a4,a5⟩:=g3;refine⟨v',a1,a2,by omega,e,?_,a5⟩;rw[show j-i=(j-(i+1))+1 by omega];simpa using a4
  . cases hf
theorem qcM (h:WRel G w0 ro0 K O w){t:Nat}{m k v:AV}{m' k':Value}(hm:qj K m m')(hk:qj K k k'){ok:Bool}(hf:yj (Dof P) O t m k ok=some v) :
 ∃ v',(Instr.lookup t m' k' ok).run P w=.ok v' w/\qj K v v':=by
 unfold yj at hf;split at hf
 . rename_i i hD;obtain⟨inf,d,z,hi,hu,_,rfl⟩:=qB hD;simp only at hf;split at hf
   . rename_i kt et hd;have:=Kq hd;subst this;split at hf
     . rename_i hko;split at hf
       . rename_i es hes
         -- the entries,as they lie
         have hent:∃ es':Array MapEntry,((m'=.map none/\es' = #[])\/∃ B clock,m'=.map (some B)/\(getObj B).run P w=.ok (.map es' clock) w)/\es'.toList.length=es.length /\
          ∀ (j:Nat) (k v:AV) (b:Nat),es[j]?=some (k,v,b)->∃ e:MapEntry,es'.toList[j]?=some e/\qj K k e.key/\qj K v e.val/\e.born=b:=by
          split at hes
          . simp only[Option.some.injEq]at hes;subst hes;simp only[qj]at hm;subst hm;exact⟨#[],.inl ⟨rfl,rfl⟩,rfl,by simp⟩
          . rename_i b;split at hes
            . rename_i es0 clock hb;simp only[Option.some.injEq]at hes;subst hes;simp only[qj]at hm;obtain⟨B,hm1,rfl⟩:=hm;obtain⟨B',h1,_,_,⟨es',h4,h5,h6⟩,_⟩:=h.blk b _ hb;rw[hm1]at h1;cases h1;exact⟨es',.inr ⟨B,clock,rfl,by simp[getObj,Sem.run,h4]⟩,by simpa using h5,fun j k v b e=>by simpa using h6 j k v b e⟩
            . cases hes
          . cases hes
         obtain⟨es',e1,e2,e3⟩:=hent;have hck:=fun b=>YG (P:=P) (w:=w) hko hk b
         split at hf
         . rename_i idx v0 hfa;simp only[Option.some.injEq]at hf;subst hf;obtain⟨d,r',g1,g2,v',rfl,g4,_⟩:=wS hko hk es es'.toList 0 _ e2 e3 hfa;refine⟨if ok then .tuple #[v',.bool true] else v',?_,by split<;>simp[qj,qk,g4]⟩;rcases e1 with ⟨rfl,rfl⟩|⟨B,clock,rfl,e1⟩
           . simp only[Instr.lookup,Sem.run_bind,run_underlying hu,Result.andThen_ok];simp only[pure,Sem.run,Result.andThen_ok,hck,Instr.findKey,Sem.run_bind,run_underlying g1,g2]
           . simp only[Instr.lookup,Sem.run_bind,run_underlying hu,Result.andThen_ok,e1];simp only[pure,Sem.run,Result.andThen_ok,hck,Instr.findKey,Sem.run_bind,run_underlying g1,g2]
         . rename_i hfa;obtain⟨zv,hz,rfl⟩:=qq0.1 hf;obtain⟨d,r',g1,g2,g3⟩:=wS hko hk es es'.toList 0 _ e2 e3 hfa;simp only at g3;subst g3;unfold qg3 at hz;split at hz
           . rename_i j hj;obtain⟨inf2,d2,z2,hi2,hu2,hz2,rfl⟩:=qB hj;simp only[Option.some.injEq]at hz;subst hz;have hzr:=qj.ofV K z2;refine⟨if ok then .tuple #[z2,.bool false] else z2,?_,by split<;>simp[qj,qk,hzr]⟩;rcases e1 with ⟨rfl,rfl⟩|⟨B,clock,rfl,e1⟩
             . simp only[Instr.lookup,Sem.run_bind,run_underlying hu,Result.andThen_ok];simp only[pure,Sem.run,Result.andThen_ok,hck,Instr.findKey,Sem.run_bind,run_underlying g1,g2];simp[zeroValue,typeInfo,hi2,hz2]
             . simp only[Instr.lookup,Sem.run_bind,run_underlying hu,Result.andThen_ok,e1];simp only[pure,Sem.run,Result.andThen_ok,hck,Instr.findKey,Sem.run_bind,run_underlying g1,g2];simp[zeroValue,typeInfo,hi2,hz2]
           . cases hz
         . cases hf
       . cases hf
     . cases hf
   . cases hf
 . cases hf
theorem QP (h:WRel G w0 ro0 K O w){t:Nat}{m k v:AV}{m' k' v':Value}(hm:qj K m m')(hk:qj K k k')(hv:qj K v v'){O':St}(hf:zQ (Dof P) O t m k v=some O') :
 ∃ w',(Instr.mapUpdate t m' k' v').run P w=.ok () w'/\WRel G w0 ro0 K O' w':=by
 unfold zQ at hf;split at hf
 . rename_i i hD;obtain⟨inf,d,z,hi,hu,_,rfl⟩:=qB hD;simp only at hf;split at hf
   . rename_i kt et hd;have:=Kq hd;subst this;split at hf
     . rename_i hko;split at hf
       . rename_i b;split at hf
         . rename_i es clock hb;simp only[qj]at hm;obtain⟨B,hm1,rfl⟩:=hm;obtain⟨B',h1,hB0,hBl,⟨es',h4,h5,h6⟩,_⟩:=h.blk b _ hb;rw[hm1]at h1;cases h1;have hbl:b<O.H.length:=(qqV.1 hb).1;have hck:=YG (P:=P) (w:=w) hko hk false;have hset:∀ (o:Obj),(setObj B o).run P w=.ok () { w with heap:=w.heap.setIfInBounds B o }:=by
            intro o;simp[setObj,Sem.run,h4]
           have hkeep:∀ o:Obj,(∀ k,k≠B->({ w with heap:=w.heap.setIfInBounds B o }:World).heap[k]?=w.heap[k]?):=by
            intro o k hk;simp[qsy (Ne.symm hk)]
           split at hf
           . rename_i idx v0 hfa;simp only[Option.some.injEq]at hf;subst hf;obtain⟨d,r',g1,g2,v1,rfl,g4,_,e0,g5,g6⟩:=wS hko hk es es'.toList 0 _ (by simpa using h5) (fun j k v b e=>by simpa using h6 j k v b e) hfa;have ge:es'[idx]?=some e0:=(by simpa using g5);refine⟨{ w with heap:=w.heap.setIfInBounds B (.map (es'.modify idx fun e=>{ e with key:=k',val:=v' }) clock) },?_,?_⟩
             . simp only[Instr.mapUpdate,Sem.run_bind,run_underlying hu,Result.andThen_ok];simp[getObj,Sem.run,h4,hck,Instr.findKey,run_underlying g1,g2,Instr.keyThatStays,ge,g6,hset]
             . refine h.setBlk (B:=B) hbl hm1 rfl rfl rfl (by simp) (hkeep _) ?_ (by rw[hb];simp) (fun cs2 el2 fr2 e2=>by simp[hBl]at e2) (fun cs2 el2 fr2 e2=>by simp[hBl]at e2);refine⟨es'.modify idx fun e=>{ e with key:=k',val:=v' },by simp[hBl],by simp[h5],?_⟩;intro j k2 v2 b2 e2;rw[qtk]at e2
               cases hj:es[j]? with
               | none=>simp[hj]at e2
               | some kvb=>
                obtain⟨k3,v3,b3⟩:=kvb;obtain⟨e,a1,a2,a3,a4⟩:=h6 j k3 v3 b3 hj;rw[hj]at e2;rw[Array.getElem?_modify,a1];by_cases hji:idx=j
                . simp only[if_pos hji,Option.map_eq_map,qsH,Option.some.injEq,Prod.mk.injEq]at e2;obtain⟨rfl,rfl,rfl⟩:=e2;rw[if_pos hji];exact⟨_,rfl,hk,hv,a4⟩
                . simp only[if_neg hji,Option.map_eq_map,qsH,Option.some.injEq,Prod.mk.injEq]at e2;obtain⟨rfl,rfl,rfl⟩:=e2;rw[if_neg hji];exact⟨e,rfl,a2,a3,a4⟩
           . rename_i hfa;simp only[Option.some.injEq]at hf;subst hf;obtain⟨d,r',g1,g2,g3⟩:=wS hko hk es es'.toList 0 _ (by simpa using h5) (fun j k v b e=>by simpa using h6 j k v b e) hfa;simp only at g3;subst g3;refine⟨{ w with heap:=w.heap.setIfInBounds B (.map (es'.push { key:=k',val:=v',born:=clock }) (clock+1)) },?_,?_⟩
             . simp only[Instr.mapUpdate,Sem.run_bind,run_underlying hu,Result.andThen_ok];simp[getObj,Sem.run,h4,hck,Instr.findKey,run_underlying g1,g2,hset]
             . refine h.setBlk (B:=B) hbl hm1 rfl rfl rfl (by simp) (hkeep _) ?_ (by rw[hb];simp) (fun cs2 el2 fr2 e2=>by simp[hBl]at e2) (fun cs2 el2 fr2 e2=>by simp[hBl]at e2);refine⟨es'.push { key:=k',val:=v',born:=clock },by simp[hBl],by simp[h5],?_⟩;intro j k2 v2 b2 e2;rw[qrO]at e2;rw[Array.getElem?_push];split at e2
               . rename_i hj;rw[if_neg (by omega)];exact h6 j k2 v2 b2 e2
               . rename_i hj;have:j-es.length=0:=by
                  rcases qsn (j-es.length) with h0|h0
                  . exact h0
                  . rw[qry (by simp;omega)]at e2;cases e2
                 rw[this]at e2;simp at e2;obtain⟨rfl,rfl,rfl⟩:=e2;rw[if_pos (by omega)];exact⟨_,rfl,hk,hv,rfl⟩
           . cases hf
         . cases hf
       . cases hf
     . cases hf
   . cases hf
 . cases hf
end
end
end Go.Abs
end
section
namespace Go.Abs
open Go Go.RowKit
inductive F2 {α β:Type} (R:α->β->Prop):List α->List β->Prop
 | nil:F2 R [] []
 | cons {a:α} {b:β} {l:List α} {m:List β} (h:R a b) (t:F2 R l m):F2 R (a::l) (b::m)
namespace F2
variable {α β γ δ:Type}{R:α->β->Prop}{S:γ->δ->Prop}
theorem len:∀ {l:List α} {m:List β},F2 R l m->l.length=m.length
 | _,_,.nil=>rfl
 | _,_,.cons _ t=>by simp[t.len]
theorem filter {p:α->Bool}{q:β->Bool}(hpq:∀ a b,R a b->p a=q b):∀ {l:List α} {m:List β},F2 R l m->F2 R (l.filter p) (m.filter q)
 | _,_,.nil=>.nil
 | _,_,.cons (a:=a) (b:=b) h t=>by
  have e:=hpq a b h;simp only[qsg,e];split
  . exact .cons h (filter hpq t)
  . exact filter hpq t
theorem append:∀ {l l':List α} {m m':List β},F2 R l m->F2 R l' m'->F2 R (l++l') (m++m')
 | _,_,_,_,.nil,k=>k
 | _,_,_,_,.cons h t,k=>.cons h (append t k)
theorem map {f:α->γ}{g:β->δ}(hfg:∀ a b,R a b->S (f a) (g b)):∀ {l:List α} {m:List β},F2 R l m->F2 S (l.map f) (m.map g)
 | _,_,.nil=>.nil
 | _,_,.cons h t=>.cons (hfg _ _ h) (map hfg t)
theorem get:∀ {l:List α} {m:List β},F2 R l m->∀ {j:Nat} {b:β},m[j]?=some b->∃ a,l[j]?=some a/\R a b
 | _,_,.nil,_,_,e=>by simp at e
 | _,_,.cons h t,j,b,e=>by
  cases j with
  | zero=>simp at e;subst e;exact⟨_,rfl,h⟩
  | succ j=>simp at e;obtain⟨a,h1,h2⟩:=get t e;exact⟨a,by simpa using h1,h2⟩
theorem all {p:α->Bool}{q:β->Bool}(hpq:∀ a b,R a b->p a=q b):∀ {l:List α} {m:List β},F2 R l m->l.all p=m.all q
 | _,_,.nil=>rfl
 | _,_,.cons h t=>by simp[hpq _ _ h,all hpq t]
theorem of_get:∀ {l:List α} {m:List β},l.length=m.length->(∀ (i:Nat) (a:α),l[i]?=some a->∃ b,m[i]?=some b/\R a b)->F2 R l m
 | [],[],_,_=>.nil
 | a::l,b::m,hl,h=>by
  obtain⟨b',e,hr⟩:=h 0 a rfl;simp at e;subst e;exact .cons hr (of_get (by simpa using hl) fun i a e=>by
   obtain⟨b',e',hr'⟩:=h (i+1) a (by simpa using e);exact⟨b',by simpa using e',hr'⟩)
 | [],_::_,hl,_=>by simp at hl
 | _::_,[],hl,_=>by simp at hl
end F2
section
variable {P:Program}{G:Nat->AV}{w0:World}{ro0:Nat->Nat->Option Value}{K:Kn}{O:St}{w w':World}{N:Nat}{env:Env}{a:Act}
theorem qcK (h:WRel G w0 ro0 K O w){t kt et:Nat}{x:Value}{b:Nat}(hu:P.underlying t=some (.map kt et))(hx:qj K (.map b) x){es:List (AV×AV×Nat)}{clock:Nat}(hb:O.H[b]?=some (.map es clock)) :
 Ran P G w0 ro0 K w (Instr.range t x) (.iter O.H.length) (O.push (.miter (some b) clock [] clock)):=by
 simp only[qj]at hx;obtain⟨B,hm,rfl⟩:=hx;obtain⟨B',g1,g2,g3,⟨es',g4,g5,g6⟩,g8⟩:=h.blk b _ hb;rw[hm]at g1;cases g1;have hle:=Kn.le_addM h w.heap.size (kD (Obj.mapIter (some B) clock #[] clock));refine⟨.pointer (some ⟨w.heap.size,0,none⟩),w.alloc (.mapIter (some B) clock #[] clock),K.addM O.H.length w.heap.size (kD _),?_,hle,h.push ?_,?_⟩
 . simp[Instr.range,run_underlying hu,getObj,Sem.run,g4]
 . simp only[jX];exact⟨some B,rfl,B,hm,rfl⟩
 . simp only[qj];exact⟨w.heap.size,by simp[Kn.addM],rfl⟩
theorem qhY (h:WRel G w0 ro0 K O w){t kt et:Nat}{x:Value}(hu:P.underlying t=some (.map kt et))(hx:qj K .nilm x) :
 Ran P G w0 ro0 K w (Instr.range t x) (.iter O.H.length) (O.push (.miter none 0 [] 0)):=by
 simp only[qj]at hx;subst hx;refine⟨.pointer (some ⟨w.heap.size,0,none⟩),w.alloc (.mapIter none 0 #[] 0),K.addM O.H.length w.heap.size (kD _),?_,Kn.le_addM h _ _,h.push ?_,?_⟩
 . simp[Instr.range,run_underlying hu]
 . simp only[jX];exact⟨none,rfl,rfl⟩
 . simp only[qj];exact⟨w.heap.size,by simp[Kn.addM],rfl⟩
theorem qft (P:Program)(w:World){n:Nat}(hn:0<n):∃ (j:Nat) (w1:World),j<n/\(w1=w\/w1=w.drew)/\(choose (Question.mapNext n)).run P w=.ok j w1:=by
 by_cases hf:n<=1
 . exact⟨0,w,by omega,Or.inl rfl,by simp[choose,Sem.run,Question.forced,hf]⟩
 . exact⟨_,w.drew,Nat.mod_lt _ (by omega),Or.inr rfl,by
    simp only[choose,Sem.run,Question.forced,decide_eq_true_eq,hf,if_false,Question.cut];rfl⟩
def qbT (K:Kn)(e:AV×AV×Nat)(e':MapEntry):Prop:=qj K e.1 e'.key/\qj K e.2.1 e'.val/\e'.born=e.2.2
theorem qeR (h:WRel G w0 ro0 K O w){t:Nat}{x:Value}{a:AV}{l:List (AV×St)}(hx:qj K a x)(hf:KY O a=some l):∃ v O',(v,O')∈l/\Ran P G w0 ro0 K w (Instr.next x false t) v O':=by
 unfold KY at hf;split at hf
 case h_2=>cases hf
 rename_i b;simp only[qj]at hx;obtain⟨B,hm,rfl⟩:=hx;split at hf
 . rename_i s1 s2 s3 hb;simp only[Option.some.injEq]at hf;subst hf;obtain⟨B',h1,hB0,hBl,h4,_⟩:=h.blk b _ hb;rw[hm]at h1;cases h1;obtain⟨mB,h5,h6⟩:=h4;simp only at h6;subst h6;refine⟨_,_,qrM.2 rfl,.tuple #[.bool false],w,K,?_,Kn.le_refl K,h,by simp[qj,qk]⟩;simp[Instr.next,getObj,Sem.run,h5]
 . rename_i mb since seen last hb;obtain⟨B',h1,hB0,hBl,h4,_⟩:=h.blk b _ hb;rw[hm]at h1;cases h1;obtain⟨mB,h5,h6⟩:=h4;simp only at h6;obtain⟨M,hmM,rfl⟩:=h6;have hbl:b<O.H.length:=(qqV.1 hb).1;split at hf
   case h_2=>cases hf
   rename_i es clock hes;split at hf
   . cases hf
   rename_i hcond;simp only[Option.some.injEq]at hf;obtain⟨M',g1,g2,g3,⟨es',g4,g5,g6⟩,g8⟩:=h.blk mb _ hes;rw[hmM]at g1;cases g1;have hF:F2 (qbT K) es es'.toList:=F2.of_get (by simpa using g5.symm) fun i e he=>by
    obtain⟨k,v,n⟩:=e;obtain⟨e',k1,k2,k3,k4⟩:=g6 i k v n he;exact⟨e',by simpa using k1,k2,k3,k4⟩
   have hborn:∀ (a:AV×AV×Nat) (b:MapEntry),qbT K a b->a.2.2=b.born:=fun a b hab=>hab.2.2.symm
   let left':=es'.filter fun e=>!seen.toArray.contains e.born
   have hleft:F2 (qbT K) (es.filter fun e=>!seen.contains e.2.2) left'.toList:=by
    have:=hF.filter (p:=fun e=>!seen.contains e.2.2) (q:=fun e=>!seen.toArray.contains e.born) (fun a b hab=>by simp[hborn a b hab]);simpa[left'] using this
   have hold:F2 (qbT K) ((es.filter fun e=>!seen.contains e.2.2).filter fun e=>decide (e.2.2<since)) (left'.filter (fun e=>decide (e.born<since))).toList:=by
    have:=hleft.filter (p:=fun e=>decide (e.2.2<since)) (q:=fun e=>decide (e.born<since)) (fun a b hab=>by simp[hborn a b hab]);simpa using this
   have hnew:F2 (qbT K) ((es.filter fun e=>!seen.contains e.2.2).filter fun e=>decide (since<=e.2.2)) (left'.filter (fun e=>decide (e.born≥since))).toList:=by
    have:=hleft.filter (p:=fun e=>decide (since<=e.2.2)) (q:=fun e=>decide (e.born≥since)) (fun a b hab=>by simp[hborn a b hab]);simpa using this
   have hc':(!seen.toArray.isEmpty&&!es'.isEmpty&&es'.all (fun e=>decide (e.born≥last)))=false:=by
    have hall:es.all (fun e=>decide (last<=e.2.2))=es'.toList.all (fun e=>decide (e.born≥last)):=hF.all (fun a b hab=>by simp[hborn a b hab]);have hemp:es.isEmpty=es'.isEmpty:=by
     cases es with
     | nil=>simp at g5;simp[Array.isEmpty,g5]
     | cons e r=>simp at g5;simp[Array.isEmpty,g5]
    rw[<- qsa];intro hh;simp only[qq1,qsq]at hh;exact hcond ⟨by simpa using hh.1.1,by rw[hemp];exact hh.1.2,by rw[hall];simpa using hh.2⟩
   generalize holdE:((es.filter fun e=>!seen.contains e.2.2).filter fun e=>decide (e.2.2<since))=old at hf hold;generalize hnewE:((es.filter fun e=>!seen.contains e.2.2).filter fun e=>decide (since<=e.2.2))=new at hf hnew
   let cand:Array (Option MapEntry):=(if (left'.filter (fun e=>decide (e.born<since))).isEmpty then #[none] else #[])++((left'.filter (fun e=>decide (e.born<since)))++(left'.filter (fun e=>decide (e.born≥since)))).map some
   have hoe:(left'.filter (fun e=>decide (e.born<since))).isEmpty=old.isEmpty:=by
    have aux:∀ (A:Array MapEntry) (o:List (AV×AV×Nat)),o.length=A.toList.length->A.isEmpty=o.isEmpty:=by
     intro A o h;rcases A with ⟨a⟩
     cases a<;>cases o<;>simp_all[Array.isEmpty]
    exact aux _ _ hold.len
   have hcand:F2 (fun (o:AV×St) (c:Option MapEntry)=>match c with
    | none=>o=(.tup [.bool false],O)
    | some e=>∃ e0,qbT K e0 e/\o=(.tup [.bool true,e0.1,e0.2.1],{ O with H:=O.H.set b (.miter (some mb) since (seen++[e0.2.2]) clock) })) l cand.toList:=by
    subst hf;simp only[cand,Array.toList_append,qtJ];refine F2.append ?_ ((hold.append hnew).map fun a b hab=>⟨a,hab,rfl⟩);rw[hoe];split
    . exact .cons rfl .nil
    . exact .nil
   have hsz:0<cand.size:=by
    simp only[cand,qtB,Array.size_map];cases hE:(left'.filter (fun e=>decide (e.born<since))).isEmpty
    . have:(left'.filter (fun e=>decide (e.born<since))).size≠0:=by
       intro h0;simp[Array.isEmpty,h0]at hE
      omega
    . simp;omega
   obtain⟨j,w1,hj,hal,hrun⟩:=qft P w hsz;have hw1:WRel G w0 ro0 K O w1:=(by rcases hal with rfl | rfl;exact h;exact h.drew);have hB1:w1.heap[B]?=some (.mapIter (some M) since seen.toArray last):=(by rcases hal with rfl | rfl<;>exact h5);have hBl1:B<w1.heap.size:=(qrE.1 hB1).1;obtain⟨o,ho,hrel⟩:=hcand.get (j:=j) (b:=cand[j]) (by simp[hj]);have hcj:cand[j]?=some cand[j]:=qs8 hj;have hmem:=qqW ho;obtain⟨v,O'⟩:=o;refine⟨v,O',hmem,?_⟩;have hstep:(Instr.next (.pointer (some ⟨B,0,none⟩)) false t).run P w=((match cand[j]? with
    | some (some e)=>do
     setObj B (.mapIter (some M) since (seen.toArray.push e.born) clock)
     pure (.tuple #[.bool true,e.key,e.val])
    | some none=>pure (.tuple #[.bool false])
    | none => stuck "Next: no such candidate" : Sem Value)).run P w1 := by
    simp only[Instr.next,getObj,Sem.run_bind,Sem.run,h5,g4,Result.andThen_ok,hc',qrq,if_false];show ((choose (Question.mapNext cand.size)).run P w).andThen _=_;rw[hrun];rfl
   cases hc:cand[j] with
   | none=>
    rw[hc]at hrel hcj;simp only at hrel;obtain⟨rfl,rfl⟩:=Prod.mk.injEq ..▸hrel;refine⟨.tuple #[.bool false],w1,K,?_,Kn.le_refl K,hw1,by simp[qj,qk]⟩;rw[hstep,hcj];rfl
   | some e=>
    rw[hc]at hrel hcj;simp only at hrel;obtain⟨e0,⟨k1,k2,k3⟩,heq⟩:=hrel;obtain⟨rfl,rfl⟩:=Prod.mk.injEq ..▸heq;refine⟨.tuple #[.bool true,e.key,e.val],{ w1 with heap:=w1.heap.setIfInBounds B (.mapIter (some M) since (seen.toArray.push e.born) clock) },K,?_,Kn.le_refl K,?_,?_⟩
    . rw[hstep,hcj];simp[setObj,Sem.run,hB1]
    . refine hw1.setBlk (B:=B) hbl hm rfl rfl rfl (by simp) (fun k hk=>by simp[qsy (Ne.symm hk)]) ?_ (by rw[hb];simp) (fun cs2 el2 fr2 e2=>by simp[hBl1]at e2) (fun cs2 el2 fr2 e2=>by simp[hBl1]at e2);simp only[jX];refine⟨some M,?_,M,hmM,rfl⟩;simp[hBl1,k3]
    . simp only[qj];exact⟨_,rfl,by simp only[qk,qj];exact⟨_,_,rfl,rfl,_,_,rfl,k1,_,_,rfl,k2,rfl⟩⟩
 . cases hf
end
end Go.Abs
end
