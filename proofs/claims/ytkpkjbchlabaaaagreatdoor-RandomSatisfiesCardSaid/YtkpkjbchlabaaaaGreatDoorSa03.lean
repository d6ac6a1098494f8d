/- A part of the proof. -/
import Derived.Test.YtkpkjbchlabaaaaGreatDoorSa02
set_option linter.unusedVariables false
set_option linter.unusedSimpArgs false
set_option linter.defProp false
section
namespace Go.Abs
open Go Go.RowKit
inductive F2 {α β:Type} (R:α->β->Prop):List α->List β->Prop
 | nil:F2 R [] []
 | cons {a:α} {b:β} {l:List α} {m:List β} (h:R a b) (t:F2 R l m):F2 R (a::l) (b::m)
namespace F2
variable {α β γ δ:Type}{R:α->β->Prop}{S:γ->δ->Prop}
theorem len:∀ {l:List α} {m:List β},F2 R l m->l.length=m.length
 | _,_,.nil=>rfl
 | _,_,.cons _ t=>by simp[t.len]
theorem filter {p:α->Bool}{q:β->Bool}(hpq:∀ a b,R a b->p a=q b):∀ {l:List α} {m:List β},F2 R l m->F2 R (l.filter p) (m.filter q)
 | _,_,.nil=>.nil
 | _,_,.cons (a:=a) (b:=b) h t=>by
  have e:=hpq a b h;simp only[List.filter_cons,e];split
  . exact .cons h (filter hpq t)
  . exact filter hpq t
theorem append:∀ {l l':List α} {m m':List β},F2 R l m->F2 R l' m'->F2 R (l++l') (m++m')
 | _,_,_,_,.nil,k=>k
 | _,_,_,_,.cons h t,k=>.cons h (append t k)
theorem map {f:α->γ}{g:β->δ}(hfg:∀ a b,R a b->S (f a) (g b)):∀ {l:List α} {m:List β},F2 R l m->F2 S (l.map f) (m.map g)
 | _,_,.nil=>.nil
 | _,_,.cons h t=>.cons (hfg _ _ h) (map hfg t)
theorem get:∀ {l:List α} {m:List β},F2 R l m->∀ {j:Nat} {b:β},m[j]?=some b->∃ a,l[j]?=some a/\R a b
 | _,_,.nil,_,_,e=>by simp at e
 | _,_,.cons h t,j,b,e=>by
  cases j with
  | zero=>simp at e;subst e;exact⟨_,rfl,h⟩
  | succ j=>simp at e;obtain⟨a,h1,h2⟩:=get t e;exact⟨a,by simpa using h1,h2⟩
theorem all {p:α->Bool}{q:β->Bool}(hpq:∀ a b,R a b->p a=q b):∀ {l:List α} {m:List β},F2 R l m->l.all p=m.all q
 | _,_,.nil=>rfl
 | _,_,.cons h t=>by simp[hpq _ _ h,all hpq t]
theorem of_get:∀ {l:List α} {m:List β},l.length=m.length->(∀ (i:Nat) (a:α),l[i]?=some a->∃ b,m[i]?=some b/\R a b)->F2 R l m
 | [],[],_,_=>.nil
 | a::l,b::m,hl,h=>by
  obtain⟨b',e,hr⟩:=h 0 a rfl;simp at e;subst e;exact .cons hr (of_get (by simpa using hl) fun i a e=>by
   obtain⟨b',e',hr'⟩:=h (i+1) a (by simpa using e);exact⟨b',by simpa using e',hr'⟩)
 | [],_::_,hl,_=>by simp at hl
 | _::_,[],hl,_=>by simp at hl
end F2
section
variable {P:Program}{G:Nat->AV}{w0:World}{ro0:Nat->Nat->Option Value}{K:Kn}{U:St}{w w':World}{N:Nat}{env:Env}{a:Act}
theorem qa0 (h:WRel G w0 ro0 K U w){t kt et:Nat}{x:Value}{b:Nat}(hu:P.underlying t=some (.map kt et))(hx:qg K (.map b) x){es:List (AV×AV×Nat)}{clock:Nat}(hb:U.H[b]?=some (.map es clock)) :
 Ran P G w0 ro0 K w (Instr.range t x) (.iter U.H.length) (U.push (.miter (some b) clock [] clock)):=by
 simp only[qg]at hx;obtain⟨B,hm,rfl⟩:=hx;obtain⟨B',g1,g2,g3,⟨es',g4,g5,g6⟩,g8⟩:=h.blk b _ hb;rw[hm]at g1;cases g1;have hle:=Kn.le_addM h w.heap.size (jd (Obj.mapIter (some B) clock #[] clock));refine⟨.pointer (some ⟨w.heap.size,0,none⟩),w.alloc (.mapIter (some B) clock #[] clock),K.addM U.H.length w.heap.size (jd _),?_,hle,h.push ?_,?_⟩
 . simp[Instr.range,run_underlying hu,getObj,Sem.run,g4]
 . simp only[jt];exact⟨some B,rfl,B,hm,rfl⟩
 . simp only[qg];exact⟨w.heap.size,by simp[Kn.addM],rfl⟩
theorem qfI (h:WRel G w0 ro0 K U w){t kt et:Nat}{x:Value}(hu:P.underlying t=some (.map kt et))(hx:qg K .nilm x) :
 Ran P G w0 ro0 K w (Instr.range t x) (.iter U.H.length) (U.push (.miter none 0 [] 0)):=by
 simp only[qg]at hx;subst hx;refine⟨.pointer (some ⟨w.heap.size,0,none⟩),w.alloc (.mapIter none 0 #[] 0),K.addM U.H.length w.heap.size (jd _),?_,Kn.le_addM h _ _,h.push ?_,?_⟩
 . simp[Instr.range,run_underlying hu]
 . simp only[jt];exact⟨none,rfl,rfl⟩
 . simp only[qg];exact⟨w.heap.size,by simp[Kn.addM],rfl⟩
theorem qc7 (P:Program)(w:World){n:Nat}(hn:0<n):∃ (j:Nat) (w1:World),j<n/\(w1=w\/w1=w.drew)/\(choose (Question.mapNext n)).run P w=.ok j w1:=by
 by_cases hf:n<=1
 . exact⟨0,w,by omega,Or.inl rfl,by simp[choose,Sem.run,Question.forced,hf]⟩
 . exact⟨_,w.drew,qs5 _ (by omega),Or.inr rfl,by
    simp only[choose,Sem.run,Question.forced,decide_eq_true_eq,hf,if_false,Question.cut];rfl⟩
def VX (K:Kn)(e:AV×AV×Nat)(e':MapEntry):Prop:=qg K e.1 e'.key/\qg K e.2.1 e'.val/\e'.born=e.2.2
theorem qcF (h:WRel G w0 ro0 K U w){t:Nat}{x:Value}{a:AV}{l:List (AV×St)}(hx:qg K a x)(hf:qhK U a=some l):∃ v U',(v,U')∈l/\Ran P G w0 ro0 K w (Instr.next x false t) v U':=by
 unfold qhK at hf;split at hf
 case h_2=>cases hf
 rename_i b;simp only[qg]at hx;obtain⟨B,hm,rfl⟩:=hx;split at hf
 . rename_i s1 s2 s3 hb;simp only[Option.some.injEq]at hf;subst hf;obtain⟨B',h1,hB0,hBl,h4,_⟩:=h.blk b _ hb;rw[hm]at h1;cases h1;obtain⟨mB,h5,h6⟩:=h4;simp only at h6;subst h6;refine⟨_,_,qqQ.2 rfl,.tuple #[.bool false],w,K,?_,Kn.le_refl K,h,by simp[qg,qh]⟩;simp[Instr.next,getObj,Sem.run,h5]
 . rename_i mb since seen last hb;obtain⟨B',h1,hB0,hBl,h4,_⟩:=h.blk b _ hb;rw[hm]at h1;cases h1;obtain⟨mB,h5,h6⟩:=h4;simp only at h6;obtain⟨M,hmM,rfl⟩:=h6;have hbl:b<U.H.length:=(qqc.1 hb).1;split at hf
   case h_2=>cases hf
   rename_i es clock hes;split at hf
   . cases hf
   rename_i hcond;simp only[Option.some.injEq]at hf;obtain⟨M',g1,g2,g3,⟨es',g4,g5,g6⟩,g8⟩:=h.blk mb _ hes;rw[hmM]at g1;cases g1;have hF:F2 (VX K) es es'.toList:=F2.of_get (by simpa using g5.symm) fun i e he=>by
    obtain⟨k,v,n⟩:=e;obtain⟨e',k1,k2,k3,k4⟩:=g6 i k v n he;exact⟨e',by simpa using k1,k2,k3,k4⟩
   have hborn:∀ (a:AV×AV×Nat) (b:MapEntry),VX K a b->a.2.2=b.born:=fun a b hab=>hab.2.2.symm
   let left':=es'.filter fun e=>!seen.toArray.contains e.born
   have hleft:F2 (VX K) (es.filter fun e=>!seen.contains e.2.2) left'.toList:=by
    have:=hF.filter (p:=fun e=>!seen.contains e.2.2) (q:=fun e=>!seen.toArray.contains e.born) (fun a b hab=>by simp[hborn a b hab]);simpa[left'] using this
   have hold:F2 (VX K) ((es.filter fun e=>!seen.contains e.2.2).filter fun e=>decide (e.2.2<since)) (left'.filter (fun e=>decide (e.born<since))).toList:=by
    have:=hleft.filter (p:=fun e=>decide (e.2.2<since)) (q:=fun e=>decide (e.born<since)) (fun a b hab=>by simp[hborn a b hab]);simpa using this
   have hnew:F2 (VX K) ((es.filter fun e=>!seen.contains e.2.2).filter fun e=>decide (since<=e.2.2)) (left'.filter (fun e=>decide (e.born≥since))).toList:=by
    have:=hleft.filter (p:=fun e=>decide (since<=e.2.2)) (q:=fun e=>decide (e.born≥since)) (fun a b hab=>by simp[hborn a b hab]);simpa using this
   have hc':(!seen.toArray.isEmpty&&!es'.isEmpty&&es'.all (fun e=>decide (e.born≥last)))=false:=by
    have hall:es.all (fun e=>decide (last<=e.2.2))=es'.toList.all (fun e=>decide (e.born≥last)):=hF.all (fun a b hab=>by simp[hborn a b hab]);have hemp:es.isEmpty=es'.isEmpty:=by
     cases es with
     | nil=>simp at g5;simp[Array.isEmpty,g5]
     | cons e r=>simp at g5;simp[Array.isEmpty,g5]
    rw[<- Bool.not_eq_true];intro hh;simp only[qqi,qrv]at hh;exact hcond ⟨by simpa using hh.1.1,by rw[hemp];exact hh.1.2,by rw[hall];simpa using hh.2⟩
   generalize holdE:((es.filter fun e=>!seen.contains e.2.2).filter fun e=>decide (e.2.2<since))=old at hf hold;generalize hnewE:((es.filter fun e=>!seen.contains e.2.2).filter fun e=>decide (since<=e.2.2))=new at hf hnew
   let cand:Array (Option MapEntry):=(if (left'.filter (fun e=>decide (e.born<since))).isEmpty then #[none] else #[])++((left'.filter (fun e=>decide (e.born<since)))++(left'.filter (fun e=>decide (e.born≥since)))).map some
   have hoe:(left'.filter (fun e=>decide (e.born<since))).isEmpty=old.isEmpty:=by
    have aux:∀ (A:Array MapEntry) (o:List (AV×AV×Nat)),o.length=A.toList.length->A.isEmpty=o.isEmpty:=by
     intro A o h;rcases A with ⟨a⟩
     cases a<;>cases o<;>simp_all[Array.isEmpty]
    exact aux _ _ hold.len
   have hcand:F2 (fun (o:AV×St) (c:Option MapEntry)=>match c with
    | none=>o=(.tup [.bool false],U)
    | some e=>∃ e0,VX K e0 e/\o=(.tup [.bool true,e0.1,e0.2.1],{ U with H:=U.H.set b (.miter (some mb) since (seen++[e0.2.2]) clock) })) l cand.toList:=by
    subst hf;simp only[cand,qta,qts];refine F2.append ?_ ((hold.append hnew).map fun a b hab=>⟨a,hab,rfl⟩);rw[hoe];split
    . exact .cons rfl .nil
    . exact .nil
   have hsz:0<cand.size:=by
    simp only[cand,qtl,Array.size_map];cases hE:(left'.filter (fun e=>decide (e.born<since))).isEmpty
    . have:(left'.filter (fun e=>decide (e.born<since))).size≠0:=by
       intro h0;simp[Array.isEmpty,h0]at hE
      omega
    . simp;omega
   obtain⟨j,w1,hj,hal,hrun⟩:=qc7 P w hsz;have hw1:WRel G w0 ro0 K U w1:=(by rcases hal with rfl | rfl;exact h;exact h.drew);have hB1:w1.heap[B]?=some (.mapIter (some M) since seen.toArray last):=(by rcases hal with rfl | rfl<;>exact h5);have hBl1:B<w1.heap.size:=(qqX.1 hB1).1;obtain⟨o,ho,hrel⟩:=hcand.get (j:=j) (b:=cand[j]) (by simp[hj]);have hcj:cand[j]?=some cand[j]:=qsN hj;have hmem:=qqd ho;obtain⟨v,U'⟩:=o;refine⟨v,U',hmem,?_⟩;have hstep:(Instr.next (.pointer (some ⟨B,0,none⟩)) false t).run P w=((match cand[j]? with
    | some (some e)=>do
     setObj B (.mapIter (some M) since (seen.toArray.push e.born) clock)
     pure (.tuple #[.bool true,e.key,e.val])
    | some none=>pure (.tuple #[.bool false])
    | none => stuck "Next: no such candidate" : Sem Value)).run P w1 := by
    simp only[Instr.next,getObj,Sem.run_bind,Sem.run,h5,g4,Result.andThen_ok,hc',qqy,if_false];show ((choose (Question.mapNext cand.size)).run P w).andThen _=_;rw[hrun];rfl
   cases hc:cand[j] with
   | none=>
    rw[hc]at hrel hcj;simp only at hrel;obtain⟨rfl,rfl⟩:=Prod.mk.injEq ..▸hrel;refine⟨.tuple #[.bool false],w1,K,?_,Kn.le_refl K,hw1,by simp[qg,qh]⟩;rw[hstep,hcj];rfl
   | some e=>
    rw[hc]at hrel hcj;simp only at hrel;obtain⟨e0,⟨k1,k2,k3⟩,heq⟩:=hrel;obtain⟨rfl,rfl⟩:=Prod.mk.injEq ..▸heq;refine⟨.tuple #[.bool true,e.key,e.val],{ w1 with heap:=w1.heap.setIfInBounds B (.mapIter (some M) since (seen.toArray.push e.born) clock) },K,?_,Kn.le_refl K,?_,?_⟩
    . rw[hstep,hcj];simp[setObj,Sem.run,hB1]
    . refine hw1.setBlk (B:=B) hbl hm rfl rfl rfl (by simp) (fun k hk=>by simp[qr7 (Ne.symm hk)]) ?_ (by rw[hb];simp) (fun cs2 el2 fr2 e2=>by simp[hBl1]at e2) (fun cs2 el2 fr2 e2=>by simp[hBl1]at e2);simp only[jt];refine⟨some M,?_,M,hmM,rfl⟩;simp[hBl1,k3]
    . simp only[qg];exact⟨_,rfl,by simp only[qh,qg];exact⟨_,_,rfl,rfl,_,_,rfl,k1,_,_,rfl,k2,rfl⟩⟩
 . cases hf
end
end Go.Abs
end
section
namespace Go.Abs
open Go Go.RowKit
section
section
variable {P:Program}{G:Nat->AV}{w0:World}{ro0:Nat->Nat->Option Value}{K:Kn}{U:St}{w w':World}{N:Nat}{env:Env}{a:Act}
theorem qcv (h:WRel G w0 ro0 K U w){t:Nat}{x:Value}{s:List UInt8}(hu:P.underlying t=some .string)(hx:qg K (.str s) x):Ran P G w0 ro0 K w (Instr.range t x) (.iter U.H.length) (U.push (.siter s 0)):=by
 simp only[qg]at hx;subst hx;refine⟨.pointer (some ⟨w.heap.size,0,none⟩),w.alloc (.stringIter ⟨s.toArray⟩ 0),K.addM U.H.length w.heap.size (jd _),?_,Kn.le_addM h _ _,h.push ?_,?_⟩
 . simp[Instr.range,run_underlying hu]
 . simp[jt]
 . simp only[qg];exact⟨w.heap.size,by simp[Kn.addM],rfl⟩
theorem qfF (h:WRel G w0 ro0 K U w){t:Nat}{x:Value}{a:AV}{v:AV}{U':St}(hx:qg K a x)(hf:Vc U a=some (v,U')):Ran P G w0 ro0 K w (Instr.next x true t) v U':=by
 unfold Vc at hf;split at hf
 . rename_i b;split at hf
   . rename_i s pos hb;simp only[qg]at hx;obtain⟨B,hm,rfl⟩:=hx;obtain⟨B',h1,hB0,hBl,h4,_⟩:=h.blk b _ hb;rw[hm]at h1;cases h1;simp only[jt]at h4;have hbl:b<U.H.length:=(qqc.1 hb).1;split at hf
     . rename_i hp;simp only[Option.some.injEq,Prod.mk.injEq]at hf;obtain⟨rfl,rfl⟩:=hf;have hp':pos<(ByteArray.mk s.toArray).size:=(by simpa[ByteArray.size] using hp);refine⟨.tuple #[.bool true,.int .i64 pos,.int .i32 (Utf8.decode ⟨s.toArray⟩ pos).1],{ w with heap:=w.heap.setIfInBounds B (.stringIter ⟨s.toArray⟩ (pos+(Utf8.decode ⟨s.toArray⟩ pos).2)) },K,?_,Kn.le_refl K,?_,?_⟩
       . simp[Instr.next,getObj,setObj,Sem.run,h4,hp',goInt]
       . refine h.setBlk (B:=B) hbl hm rfl rfl rfl (by simp) (fun k hk=>by simp[qr7 (Ne.symm hk)]) ?_ (by rw[hb];simp) (fun cs2 el2 fr2 e2=>by simp[hBl]at e2) (fun cs2 el2 fr2 e2=>by simp[hBl]at e2);simp[jt,hBl]
       . simp[qg,qh]
     . rename_i hp;simp only[Option.some.injEq,Prod.mk.injEq]at hf;obtain⟨rfl,rfl⟩:=hf;have hp':¬ pos<(ByteArray.mk s.toArray).size:=(by simpa[ByteArray.size] using hp);refine⟨.tuple #[.bool false],w,K,?_,Kn.le_refl K,h,?_⟩
       . simp[Instr.next,getObj,Sem.run,h4,hp']
       . simp[qg,qh]
   . cases hf
 . cases hf
def Did (P:Program)(G:Nat->AV)(w0:World)(ro0:Nat->Nat->Option Value)(K:Kn)(w:World)(s:Sem Next)(v:AV)(U':St):Prop :=
 ∃ v' w' K',(s.run P w=.ok (.value v') w'\/(s.run P w=.ok .skip w'/\v'=undef))/\K.le K'/\WRel G w0 ro0 K' U' w'/\qg K' v v'
theorem Did.of_ran {s:Sem Value}{v:AV}{U':St}(h:Ran P G w0 ro0 K w s v U'):Did P G w0 ro0 K w (do pure (.value (<- s))) v U':=by
 obtain⟨v',w',K',h1,h2,h3,h4⟩:=h;exact⟨v',w',K',.inl (by simp[h1]),h2,h3,h4⟩
theorem Did.of_same (h:WRel G w0 ro0 K U w){s:Sem Value}{v:AV}(hr:∃ v',s.run P w=.ok v' w/\qg K v v'):Did P G w0 ro0 K w (do pure (.value (<- s))) v U:=by
 obtain⟨v',h1,h2⟩:=hr;exact Did.of_ran (Ran.same h h1 h2)
theorem Did.of_unit {s:Sem Unit}{U':St}(hr:∃ w',s.run P w=.ok () w'/\WRel G w0 ro0 K U' w'):Did P G w0 ro0 K w (do s;pure .skip) (.tup []) U':=by
 obtain⟨w',h1,h2⟩:=hr;exact⟨undef,w',K,.inr ⟨by simp[h1],rfl⟩,Kn.le_refl K,h2,by simp only[qg];exact⟨#[],rfl,by simp[qh]⟩⟩
theorem qaL (hw:WRel G w0 ro0 K U w)(he:ERel K N env a)(ps:Array (Nat×Operand)) :
 (ps.map fun (i,x)=>(i,a.eval x)).toList.map (·.1)=(ps.toList.map fun p=>(p.1,ev G env p.2)).map (·.1) /\
   qh K ((ps.toList.map fun p=>(p.1,ev G env p.2)).map (·.2)) ((ps.map fun (i,x)=>(i,a.eval x)).toList.map (·.2)):=by
 constructor
 . simp
 . have:=vT hw he (ps.toList.map (·.2));simpa[Wc,Function.comp_def] using this
theorem Ye (hw:WRel G w0 ro0 K U w)(he:ERel K N env a)(o:Oper){v:AV}{U':St}(h:sem (Dof P) G env U o.op=some (v,U')) :
 Did P G w0 ro0 K w (execOp a.eval o) v U':=by
 have ex:=Q9 hw he;obtain⟨dst,op,type,pos,after,guard⟩:=o;simp only at h;cases op<;>simp only[sem]at h
 case move x=>
  simp only[Option.some.injEq,Prod.mk.injEq]at h;obtain⟨rfl,rfl⟩:=h;exact⟨a.eval x,w,K,.inl rfl,Kn.le_refl K,hw,ex x⟩
 case assign x=>
  simp only[Option.some.injEq,Prod.mk.injEq]at h;obtain⟨rfl,rfl⟩:=h;exact⟨a.eval x,w,K,.inl rfl,Kn.le_refl K,hw,ex x⟩
 case pick c x y=>
  split at h
  . rename_i b hb;simp only[Option.some.injEq,Prod.mk.injEq]at h;obtain⟨rfl,rfl⟩:=h;have hc:=ex c;rw[hb]at hc;simp only[qg]at hc;refine⟨if b then a.eval x else a.eval y,w,K,.inl ?_,Kn.le_refl K,hw,?_⟩
    . simp[execOp,hc,asBool]
    . cases b
      . exact ex y
      . exact ex x
  . cases h
 case alloc e=>
  split at h
  . rename_i i hi;split at h
    . rename_i hz;simp only[Option.some.injEq,Prod.mk.injEq]at h;obtain⟨rfl,rfl⟩:=h;exact Did.of_ran (qdg hw hi hz)
    . cases h
  . cases h
 case box e x=>
  obtain⟨c,hc,he'⟩:=qqj.1 h;simp only[Prod.mk.injEq]at he';obtain⟨rfl,rfl⟩:=he';exact Did.of_ran (qi9 hw (ex x) hc)
 case build t ps=>
  obtain⟨u,hu,he'⟩:=qqj.1 h;simp only[Prod.mk.injEq]at he';obtain⟨rfl,rfl⟩:=he';obtain⟨p1,p2⟩:=qaL hw he ps;exact Did.of_ran (qda hw p1 p2 hu)
 case buildSlice t n ps=>
  obtain⟨u,hu,he'⟩:=qqj.1 h;simp only[Prod.mk.injEq]at he';obtain⟨rfl,rfl⟩:=he';obtain⟨p1,p2⟩:=qaL hw he ps;exact Did.of_ran (Jw hw p1 p2 hu)
 case load t x=>
  obtain⟨u,hu,he'⟩:=qqj.1 h;simp only[Prod.mk.injEq]at he';obtain⟨rfl,rfl⟩:=he';exact Did.of_ran (qfO hw (ex x) hu)
 case store t x y=>
  obtain⟨u,hu,he'⟩:=qqj.1 h;simp only[Prod.mk.injEq]at he';obtain⟨rfl,rfl⟩:=he';exact Did.of_unit (Qm hw (ex x) (ex y) hu)
 case nilCheck x=>
  have hx:=ex x;split at h
  . rename_i b o hb;simp only[Option.some.injEq,Prod.mk.injEq]at h;obtain⟨rfl,rfl⟩:=h;rw[hb]at hx;have hx':=hx;simp only[qg]at hx;obtain⟨B,_,e⟩:=hx;exact⟨a.eval x,w,K,.inl (by simp[execOp,e]),Kn.le_refl K,hw,hx'⟩
  . rename_i c hb;simp only[Option.some.injEq,Prod.mk.injEq]at h;obtain⟨rfl,rfl⟩:=h;rw[hb]at hx;have hx':=hx;simp only[qg]at hx;obtain⟨B,off,e,_⟩:=hx;exact⟨a.eval x,w,K,.inl (by simp[execOp,e]),Kn.le_refl K,hw,hx'⟩
  . cases h
 case binOp op t x y u=>
  obtain⟨u,hu,he'⟩:=qqj.1 h;simp only[Prod.mk.injEq]at he';obtain⟨rfl,rfl⟩:=he';exact Did.of_same hw (qje (ex x) (ex y) hu x y)
 case unOp op t x=>
  obtain⟨u,hu,he'⟩:=qqj.1 h;simp only[Prod.mk.injEq]at he';obtain⟨rfl,rfl⟩:=he';exact Did.of_same hw (qj2 (ex x) hu)
 case convert s d x=>
  obtain⟨u,hu,he'⟩:=qqj.1 h;simp only[Prod.mk.injEq]at he';obtain⟨rfl,rfl⟩:=he';exact Did.of_same hw (qf8 hw (ex x) hu)
 case makeFunc fn x y=>
  cases fn<;>simp only at h<;>try (cases h;done)
  rename_i f;simp only[Option.some.injEq,Prod.mk.injEq]at h;obtain⟨rfl,rfl⟩:=h;refine⟨.func (.func f) (x.map a.eval) (y.map a.eval),w,K,.inl (by simp[execOp,Instr.makeFunc]),Kn.le_refl K,hw,?_⟩;simp only[qg];exact⟨_,_,rfl,by simpa using vT hw he x.toList,by simpa using vT hw he y.toList⟩
 case makeMap t r=>
  cases r with
  | none=>
   simp only[Option.some.injEq,Prod.mk.injEq]at h;obtain⟨rfl,rfl⟩:=h;exact Did.of_ran (Vg hw t)
  | some r=>cases h
 case makeSlice t l c=>exact Did.of_ran (vC hw (ex l) (ex c) h)
 case slice t x lo hi mx=>
  obtain⟨hlo,hlo0⟩:=qcB hw he lo;obtain⟨hhi,hhi0⟩:=qcB hw he hi;obtain⟨hmx,hmx0⟩:=qcB hw he mx;have hx:=ex x;split at h
  . rename_i i hD;obtain⟨inf,d,z,hi,hu,_,rfl⟩:=qs hD;simp only at h;split at h
    . rename_i s hd hxs;have:=vo hd;subst this;obtain⟨u,hu',he'⟩:=qqj.1 h;simp only[Prod.mk.injEq]at he';obtain⟨rfl,rfl⟩:=he';rw[hxs]at hx;simp only[qg]at hx;have:=qg6 (P:=P) (K:=K) (w:=w) hu hlo hlo0 hhi hhi0 hmx0 hu';rw[<- hx]at this;exact Did.of_same hw this
    . rename_i e hd;have:=wZ hd;subst this;split at h
      . rename_i j sz rows tok hj hxs;obtain⟨inf2,d2,z2,hi2,hu2,_,rfl⟩:=qs hj;split at h
        . rename_i hsz;obtain⟨u,hu',he'⟩:=qqj.1 h;simp only[Prod.mk.injEq]at he';obtain⟨rfl,rfl⟩:=he';rw[hxs]at hx;exact Did.of_same hw (qkf hu hi2 hsz hx hlo hlo0 hhi hhi0 hmx hmx0 hu')
        . cases h
      . rename_i j b off len sz hj hxs;obtain⟨inf2,d2,z2,hi2,hu2,_,rfl⟩:=qs hj;split at h
        . rename_i hsz;simp only at hsz;subst hsz;obtain⟨u,hu',he'⟩:=qqj.1 h;simp only[Prod.mk.injEq]at he';obtain⟨rfl,rfl⟩:=he';rw[hxs]at hx;exact Did.of_same hw (qkg hu hi2 hx hlo hlo0 hhi hhi0 hmx0 hu')
        . cases h
      . cases h
    . cases h
  . cases h
 case fieldAddr s x f=>
  obtain⟨u,hu,he'⟩:=qqj.1 h;simp only[Prod.mk.injEq]at he';obtain⟨rfl,rfl⟩:=he';exact Did.of_same hw (Y0 hw (ex x) hu)
 case field s x f=>
  obtain⟨u,hu,he'⟩:=qqj.1 h;simp only[Prod.mk.injEq]at he';obtain⟨rfl,rfl⟩:=he';exact Did.of_same hw (qcW (ex x) hu)
 case indexAddr t x i=>
  obtain⟨u,hu,he'⟩:=qqj.1 h;simp only[Prod.mk.injEq]at he';obtain⟨rfl,rfl⟩:=he';exact Did.of_same hw (YP hw (ex x) (ex i) hu)
 case index t x i=>
  obtain⟨u,hu,he'⟩:=qqj.1 h;simp only[Prod.mk.injEq]at he';obtain⟨rfl,rfl⟩:=he';exact Did.of_same hw (qcN (ex x) (ex i) hu)
 case lookup t x i ok=>
  obtain⟨u,hu,he'⟩:=qqj.1 h;simp only[Prod.mk.injEq]at he';obtain⟨rfl,rfl⟩:=he';exact Did.of_same hw (qa3 hw (ex x) (ex i) hu)
 case mapUpdate t m k x=>
  obtain⟨u,hu,he'⟩:=qqj.1 h;simp only[Prod.mk.injEq]at he';obtain⟨rfl,rfl⟩:=he';exact Did.of_unit (vB hw (ex m) (ex k) (ex x) hu)
 case range t x=>
  have hx:=ex x;split at h
  . rename_i i s hD hxs;obtain⟨inf,d,z,hi,hu,_,rfl⟩:=qs hD;simp only at h;split at h
    . rename_i hd;have:=vo hd;subst this;simp only[Option.some.injEq,Prod.mk.injEq]at h;obtain⟨rfl,rfl⟩:=h;rw[hxs]at hx;exact Did.of_ran (qcv hw hu hx)
    . cases h
  . rename_i i b hD hxs;obtain⟨inf,d,z,hi,hu,_,rfl⟩:=qs hD;simp only at h;split at h
    . rename_i kt et es clock hd hb;have:=J7 hd;subst this;simp only[Option.some.injEq,Prod.mk.injEq]at h;obtain⟨rfl,rfl⟩:=h;rw[hxs]at hx;exact Did.of_ran (qa0 hw hu hx hb)
    . cases h
  . rename_i i hD hxs;obtain⟨inf,d,z,hi,hu,_,rfl⟩:=qs hD;simp only at h;split at h
    . rename_i kt et hd;have:=J7 hd;subst this;simp only[Option.some.injEq,Prod.mk.injEq]at h;obtain⟨rfl,rfl⟩:=h;rw[hxs]at hx;exact Did.of_ran (qfI hw hu hx)
    . cases h
  . cases h
 case next it b=>
  cases b with
  | false=>cases h
  | true=>
   simp only at h;exact Did.of_ran (qfF hw (ex it) h)
 case extract x i=>
  obtain⟨u,hu,he'⟩:=qqj.1 h;simp only[Prod.mk.injEq]at he';obtain⟨rfl,rfl⟩:=he';exact Did.of_same hw (Vs (ex x) hu)
 case call c=>
  obtain⟨callee,args,argTypes⟩:=c;cases callee<;>simp only at h<;>try (cases h;done)
  rename_i b;have ha:=vT hw he args.toList;unfold zB at h;split at h
  . rename_i t x hts hvs;obtain⟨u,hu,he'⟩:=qqj.1 h;simp only[Prod.mk.injEq]at he';obtain⟨rfl,rfl⟩:=he';rw[hvs]at ha;simp only[qh]at ha;obtain⟨v1,vr,e1,h1,rfl⟩:=ha;have eargs:args.map a.eval = #[v1]:=(by apply Array.ext';simpa using e1);have ets:argTypes = #[t]:=(by apply Array.ext';simpa using hts);have:=qhW hw h1 type hu;obtain⟨v',r1,r2⟩:=this;exact⟨v',w,K,.inl (by simp[execOp,resolve,invoke,builtin,eargs,ets,r1]),Kn.le_refl K,hw,r2⟩
  . rename_i t u x y hts hvs;split at h
    . rename_i hut;subst hut;rw[hvs]at ha;simp only[qh]at ha;obtain⟨v1,vr,e1,h1,v2,vr2,e2,h2,rfl⟩:=ha;have eargs:args.map a.eval = #[v1,v2]:=(by apply Array.ext';simpa[e2] using e1);have ets:argTypes = #[u,u]:=(by apply Array.ext';simpa using hts);obtain⟨v',w',K',r1,r2,r3,r4⟩:=qbP hw h1 h2 type h;exact⟨v',w',K',.inl (by simp[execOp,resolve,invoke,builtin,eargs,ets,r1]),r2,r3,r4⟩
    . cases h
  . rename_i x y hvs;obtain⟨u,hu,he'⟩:=qqj.1 h;simp only[Prod.mk.injEq]at he';obtain⟨rfl,rfl⟩:=he';rw[hvs]at ha;simp only[qh]at ha;obtain⟨v1,vr,e1,h1,v2,vr2,e2,h2,rfl⟩:=ha;have eargs:args.map a.eval = #[v1,v2]:=(by apply Array.ext';simpa[e2] using e1);obtain⟨v',r1,r2⟩:=qhO (P:=P) (w:=w) h1 h2 argTypes type hu;exact⟨v',w,K,.inl (by simp[execOp,resolve,invoke,builtin,eargs,r1]),Kn.le_refl K,hw,r2⟩
  . rename_i x y z hvs;obtain⟨u,hu,he'⟩:=qqj.1 h;simp only[Prod.mk.injEq]at he';obtain⟨rfl,rfl⟩:=he';rw[hvs]at ha;simp only[qh]at ha;obtain⟨v1,vr,e1,h1,v2,vr2,e2,h2,v3,vr3,e3,h3,rfl⟩:=ha;have eargs:args.map a.eval = #[v1,v2,v3]:=(by apply Array.ext';simpa[e2,e3] using e1);obtain⟨v',r1,r2⟩:=qfK (P:=P) (w:=w) h1 h2 h3 argTypes type hu;exact⟨v',w,K,.inl (by simp[execOp,resolve,invoke,builtin,eargs,r1]),Kn.le_refl K,hw,r2⟩
  . rename_i x y hvs;obtain⟨u,hu,he'⟩:=qqj.1 h;simp only[Prod.mk.injEq]at he';obtain⟨rfl,rfl⟩:=he';rw[hvs]at ha;simp only[qh]at ha;obtain⟨v1,vr,e1,h1,v2,vr2,e2,h2,rfl⟩:=ha;have eargs:args.map a.eval = #[v1,v2]:=(by apply Array.ext';simpa[e2] using e1);obtain⟨v',r1,r2⟩:=qhR (P:=P) (w:=w) h1 h2 argTypes type hu;exact⟨v',w,K,.inl (by simp[execOp,resolve,invoke,builtin,eargs,r1]),Kn.le_refl K,hw,r2⟩
  . cases h
 all_goals (first | (cases h;done) | (split at h<;>cases h))
end
end
mutual
def qR:AV->Bool
 | .ptr .. | .ms .. | .map _ | .iter _ | .any=>false
 | .rptr c=>qv c
 | .sl _ rows tok=>(match tok with | .chain .. =>false | _=>true)&&zl rows
 | .fn _ a b=>qv a&&qv b
 | .agg c=>qv c
 | .tup c=>qv c
 | _=>true
def qv:List AV->Bool
 | []=>true
 | a::r=>qR a&&qv r
def zl:List (List AV)->Bool
 | []=>true
 | a::r=>qv a&&zl r
end
theorem qaW:∀ l,qv l=l.all qR
 | []=>rfl
 | a::r=>by simp[qv,qaW r]
theorem Wg:∀ l,zl l=l.all (·.all qR)
 | []=>rfl
 | a::r=>by simp[zl,Wg r,qaW]
mutual
theorem qg.toK0 {K:Kn}:∀ (a:AV) {v:Value},qR a=true->qg K a v->qg (K0 K.ro) a v
 | .any,_,h,_=>by simp[qR]at h
 | .bool b,_,_,x=>by simpa[qg] using x
 | .int k n,_,_,x=>by simpa[qg] using x
 | .str s,_,_,x=>by simpa[qg] using x
 | .nilp,_,_,x=>by simpa[qg] using x
 | .ptr b off,_,h,x=>by simp[qR]at h
 | .rptr c,_,h,x=>by
  simp only[qg,qR]at h x ⊢;obtain⟨B,off,h1,h2⟩:=x;exact⟨B,off,h1,ql.toK0 c B off h h2⟩
 | .sl sz rows tok,_,h,x=>by
  simp only[qg,qR,qqi]at h x ⊢;rcases x with x|⟨B,off,cap,h1,h2,h3,h4⟩
  . exact .inl x
  . refine .inr ⟨B,off,cap,h1,h2,qJ.toK0 rows B off sz h.2 h3,?_⟩;cases tok<;>simp_all[kj]
 | .ms b off len sz,_,h,x=>by simp[qR]at h
 | .nilm,_,_,x=>by simpa[qg] using x
 | .map b,_,h,x=>by simp[qR]at h
 | .iter b,_,h,x=>by simp[qR]at h
 | .fn f a b,_,h,x=>by
  simp only[qg,qR,qqi]at h x ⊢;obtain⟨va,vb,h1,h2,h3⟩:=x;exact⟨va,vb,h1,qh.toK0 a h.1 h2,qh.toK0 b h.2 h3⟩
 | .nilf,_,_,x=>by simpa[qg] using x
 | .agg c,_,h,x=>by
  simp only[qg,qR]at h x ⊢;obtain⟨vs,h1,h2⟩:=x;exact⟨vs,h1,qh.toK0 c h h2⟩
 | .tup c,_,h,x=>by
  simp only[qg,qR]at h x ⊢;obtain⟨vs,h1,h2⟩:=x;exact⟨vs,h1,qh.toK0 c h h2⟩
theorem qh.toK0 {K:Kn}:∀ (l:List AV) {vs:List Value},qv l=true->qh K l vs->qh (K0 K.ro) l vs
 | [],_,_,x=>by simpa[qh] using x
 | a::r,_,h,x=>by
  simp only[qh,qv,qqi]at h x ⊢;obtain⟨v,vr,h1,h2,h3⟩:=x;exact⟨v,vr,h1,qg.toK0 a h.1 h2,qh.toK0 r h.2 h3⟩
theorem ql.toK0 {K:Kn}:∀ (l:List AV) (B off:Nat),qv l=true->ql K B off l->ql (K0 K.ro) B off l
 | [],_,_,_,_=>by simp[ql]
 | a::r,B,off,h,x=>by
  simp only[ql,qv,qqi]at h x ⊢;obtain⟨⟨v,h1,h2⟩,h3⟩:=x;exact⟨⟨v,h1,qg.toK0 a h.1 h2⟩,ql.toK0 r _ _ h.2 h3⟩
theorem qJ.toK0 {K:Kn}:∀ (l:List (List AV)) (B off sz:Nat),zl l=true->qJ K B off sz l->qJ (K0 K.ro) B off sz l
 | [],_,_,_,_,_=>by simp[qJ]
 | a::r,B,off,sz,h,x=>by
  simp only[qJ,zl,qqi]at h x ⊢;obtain⟨⟨h1,h0,h2⟩,h3⟩:=x;exact⟨⟨h1,h0,ql.toK0 a _ _ h.1 h2⟩,qJ.toK0 r _ _ _ h.2 h3⟩
end
end Go.Abs
end
section
namespace Go.Abs
open Go Go.RowKit
def pl1:AV->AV
 | .sl sz rows (.chain _ _)=>.sl sz rows .none
 | v=>v
def pl2:AV->AV
 | .agg c=>.agg (c.map pl1)
 | v=>pl1 v
def plain:AV->AV
 | .tup c=>.tup (c.map pl2)
 | v=>pl2 v
def wN (sz:Nat):Nat->List AV->List (List AV)
 | 0,_=>[]
 | n+1,c=>c.take sz::wN sz n (c.drop sz)
def kN (H:List Blk):AV->AV
 | .ms b off len sz=>match H[b]? with
  | some (.cells c)=>if off+len*sz<=c.length then .sl sz (wN sz len (c.drop off)) .none else .any
  | _=>.any
 | v=>pl1 v
def ZD (H:List Blk):AV->AV
 | .agg c=>.agg (c.map (kN H))
 | v=>kN H v
def fin (H:List Blk):AV->AV
 | .tup c=>.tup (c.map (ZD H))
 | v=>ZD H v
theorem qcz {K:Kn}{v:Value}:∀ {a:AV},qg K a v->qg K (pl1 a) v:=by
 intro a h;unfold pl1;split
 . rename_i sz rows t k;simp only[qg]at h ⊢;rcases h with ⟨_,_,h⟩|⟨B,off,cap,h1,h2,h3,_⟩
   . exact h.elim
   . exact .inr ⟨B,off,cap,h1,h2,h3,trivial⟩
 . exact h
theorem qh.mapRel {K K':Kn}{f:AV->AV}(hf:∀ a v,qg K a v->qg K' (f a) v):∀ (l:List AV) {vs:List Value},qh K l vs->qh K' (l.map f) vs
 | [],_,h=>by simpa[qh] using h
 | a::r,_,h=>by
  simp only[qh,qqp]at h ⊢;obtain⟨v,vr,h1,h2,h3⟩:=h;exact⟨v,vr,h1,hf a v h2,qh.mapRel hf r h3⟩
theorem qhu {K:Kn}{v:Value}:∀ {a:AV},qg K a v->qg K (pl2 a) v:=by
 intro a h;unfold pl2;split
 . simp only[qg]at h ⊢;obtain⟨vs,h1,h2⟩:=h;exact⟨vs,h1,qh.mapRel (fun _ _=>qcz) _ h2⟩
 . exact qcz h
theorem qhr {K:Kn}{v:Value}:∀ {a:AV},qg K a v->qg K (plain a) v:=by
 intro a h;unfold plain;split
 . simp only[qg]at h ⊢;obtain⟨vs,h1,h2⟩:=h;exact⟨vs,h1,qh.mapRel (fun _ _=>qhu) _ h2⟩
 . exact qhu h
theorem ZN (sz:Nat):∀ (n:Nat) (c:List AV),n*sz<=c.length->(wN sz n c).length=n/\∀ (i:Nat) (r:List AV),(wN sz n c)[i]?=some r->r=(c.drop (i*sz)).take sz/\i<n
 | 0,c,_=>⟨rfl,by simp[wN]⟩
 | n+1,c,h=>by
  rw[qra]at h;obtain⟨h1,h2⟩:=ZN sz n (c.drop sz) (by simp;omega);refine⟨by simp[wN,h1],fun i r e=>?_⟩
  cases i with
  | zero=>simp[wN]at e;subst e;simp
  | succ i=>
   simp only[wN,qsr]at e;obtain⟨h3,h4⟩:=h2 i r e;refine⟨?_,by omega⟩;rw[h3,List.drop_drop,qra,Nat.one_mul,qrZ sz]
section
variable {P:Program}{G:Nat->AV}{w0:World}{ro0:Nat->Nat->Option Value}{K:Kn}{U:St}{w w':World}
open Classical in
noncomputable def w6 (w0 w:World)(ro:Nat->Nat->Option Value):Nat->Nat->Option Value :=
 fun b o=>match ro b o with
  | some v=>some v
  | none=>if w0.heap.size<=b then w.cell? ⟨b,o,none⟩ else none
theorem JC (w0 w:World)(ro:Nat->Nat->Option Value)(b o:Nat)(v:Value)(h:ro b o=some v):w6 w0 w ro b o=some v:=by simp[w6,h]
theorem Kn.le_end (K:Kn)(w0 w:World):K.le { K with ro:=w6 w0 w K.ro } :=
 ⟨fun b o v e=>JC w0 w K.ro b o v e,fun _ _ e=>e,qqn _,fun t C _ e=>⟨C,e,.inl rfl⟩,fun _ _ _=>rfl,fun _ _ e=>e,fun _ _ e=>e⟩
theorem WRel.end_ro (h:WRel G w0 ro0 K U w):(∀ b o v,w6 w0 w K.ro b o=some v->w.cell? ⟨b,o,none⟩=some v)/\(∀ b o v,w6 w0 w K.ro b o=some v->b<w0.heap.size->ro0 b o=some v):=by
 constructor
 . intro b o v e;simp only[w6]at e;split at e
   . rename_i u hu;cases e;exact h.ro _ _ _ hu
   . split at e
     . exact e
     . cases e
 . intro b o v e hb;simp only[w6]at e;split at e
   . rename_i u hu;cases e;exact h.new _ _ _ hu hb
   . rw[if_neg (by omega)]at e;cases e
theorem qeE (h:WRel G w0 ro0 K U w){a:AV}{v:Value}(ha:qg K a v):qg { K with ro:=w6 w0 w K.ro } (kN U.H a) v:=by
 have hle:=Kn.le_end K w0 w;unfold kN;split
 . rename_i b off len sz;split
   . rename_i c hb;split
     . rename_i hl;simp only[qg]at ha ⊢;obtain⟨B,cap,hm,rfl,h1,h2⟩:=ha;obtain⟨B',g1,g2,g3,⟨cs,el,g4,g5,g6,g7⟩,g8⟩:=h.blk b _ hb;rw[hm]at g1;cases g1;obtain⟨k1,k2⟩:=ZN sz len (c.drop off) (by simp;omega);refine .inr ⟨B,off,cap,by rw[k1],by rw[k1];exact h1,qJ.intro B sz _ off fun i r e=>?_,trivial⟩;obtain⟨e1,e2⟩:=k2 i r e;have hmul:(i+1)*sz<=len*sz:=qrj _ (by omega);rw[qra,Nat.one_mul]at hmul;refine⟨by rw[e1];simp;omega,?_,ql.intro B r _ fun j x ex=>?_⟩
       . rw[qqo]at g5 ⊢;intro x hx;rw[e1]at hx;exact g5 x (qrT (qrT (qrf hx)))
       . rw[e1,qq2]at ex;split at ex
         . rw[qq1,qq1]at ex;obtain⟨u,u1,u2⟩:=g7 _ _ ex;refine⟨u,?_,u2.mono hle⟩;show w6 w0 w K.ro B (off+i*sz+j)=some u;simp only[w6,g8];rw[if_pos g2];simp only[World.cell?,g4];simpa[qsb] using u1
         . cases ex
     . simp[qg]
   . simp[qg]
 . exact (qcz ha).mono hle
theorem qeD (h:WRel G w0 ro0 K U w){a:AV}{v:Value}(ha:qg K a v):qg { K with ro:=w6 w0 w K.ro } (ZD U.H a) v:=by
 unfold ZD;split
 . simp only[qg]at ha ⊢;obtain⟨vs,h1,h2⟩:=ha;exact⟨vs,h1,qh.mapRel (fun _ _=>qeE h) _ h2⟩
 . exact qeE h ha
theorem qpp (h:WRel G w0 ro0 K U w){a:AV}{v:Value}(ha:qg K a v):qg { K with ro:=w6 w0 w K.ro } (fin U.H a) v:=by
 unfold fin;split
 . simp only[qg]at ha ⊢;obtain⟨vs,h1,h2⟩:=ha;exact⟨vs,h1,qh.mapRel (fun _ _=>qeD h) _ h2⟩
 . exact qeD h ha
end
def bodied (P : Program) (g : FuncId) : Bool := P.funcs[g]?.any (fun fn => fn.body.isSome && fn.name != "runtime.NumGoroutine")
def Pure (P:Program)(G:Nat->AV)(f:FuncId)(args:List AV)(r:AV):Prop :=
 bodied P f=true/\∀ (w0:World) (ro:Nat->Nat->Option Value) (vs:Array Value),(∀ g,qg (K0 ro) (G g) (.pointer (some ⟨g,0,none⟩)))->(∀ b o v,ro b o=some v->w0.cell? ⟨b,o,none⟩=some v)->qh (K0 ro) args vs.toList ->
  Calls P f vs w0 fun e w'=>∃ v ro',e=.returned v/\Below w0.heap.size w0 w'/\(∀ b o v,ro b o=some v->ro' b o=some v)/\(∀ b o v,ro' b o=some v->w'.cell? ⟨b,o,none⟩=some v) /\
   (∀ b o v,ro' b o=some v->b<w0.heap.size->ro b o=some v)/\qg (K0 ro') r v
def mark (D:Nat):Deferred:={ target:=.collected D,args:=#[] }
def Dfr (K:Kn)(ds:List Deferred)(K':Kn)(ds':List Deferred):Prop :=
 ∃ Ds:List Nat,Ds.Nodup/\ds'=Ds.map mark++ds/\∀ D∈Ds,K.fx D=none/\K'.fx D=some (.deferred (some []))
theorem Dfr.same {K K':Kn}{ds ds':List Deferred}(h:ds'=ds):Dfr K ds K' ds':=⟨[],List.nodup_nil,by simp[h],by simp⟩
theorem Dfr.trans {K K1 K2:Kn}{ds ds1 ds2:List Deferred}(h1:K.le K1)(h2:K1.le K2)(a:Dfr K ds K1 ds1)(b:Dfr K1 ds1 K2 ds2):Dfr K ds K2 ds2:=by
 obtain⟨D1,n1,e1,f1⟩:=a;obtain⟨D2,n2,e2,f2⟩:=b;refine⟨D2++D1,?_,by rw[e2,e1];simp,fun D hD=>?_⟩
 . refine qq9.2 ⟨n2,n1,fun x hx y hy e=>?_⟩;subst e;have:=(f2 x hx).1;rw[(f1 x hy).2]at this;cases this
 . rcases qqA.1 hD with hD|hD
   . obtain⟨g1,g2⟩:=f2 D hD;refine⟨?_,g2⟩
     cases e:K.fx D with
     | none=>rfl
     | some o=>rw[h1.fx D o e]at g1;cases g1
   . obtain⟨g1,g2⟩:=f1 D hD;exact⟨g1,h2.fx _ _ g2⟩
structure Glo where
 g:Nat->AV
 X:List PanicEntry->St->Prop
instance:Coe Glo (Nat->AV):=⟨Glo.g⟩
def Glo.NoX (G:Glo):Prop:=∀ c U,¬ G.X c U
abbrev Jn (g:Nat->AV):Glo:=⟨g,fun _ _=>False⟩
instance:Coe (Nat->AV) Glo:=⟨Jn⟩
theorem qaF (g:Nat->AV):(Jn g).NoX:=fun _ _ h=>h
@[simp]theorem quiet_g (g:Nat->AV):(Jn g).g=g:=rfl
def Out (G:Glo)(w0:World)(ro0:Nat->Nat->Option Value)(K:Kn)(ds:List Deferred)(e:Exit)(a:Act)(w:World):Prop :=
 ∃ c K' U,e=.panic c/\K.le K'/\WRel G w0 ro0 K' U w/\Dfr K ds K' a.defers/\G.X c U
def ZW (G:Glo)(w0:World)(ro0:Nat->Nat->Option Value)(K:Kn)(N:Nat)(ds:List Deferred)(Q:Exit->Env->St->Prop):Exit->Act->World->Prop :=
 fun e a w=>(∃ K' env U,K.le K'/\WRel G w0 ro0 K' U w/\ERel K' N env a/\Dfr K ds K' a.defers/\Q e env U)\/Out G w0 ro0 K ds e a w
def AWp (P:Program)(G:Glo)(N:Nat)(c:Code)(env:Env)(U:St)(Q:Exit->Env->St->Prop):Prop :=
 ∀ (w0:World) (ro0:Nat->Nat->Option Value) (K:Kn) (a:Act) (w:World),WRel G w0 ro0 K U w->ERel K N env a->c.wp P (ZW G w0 ro0 K N a.defers Q) a w
def qf (P:Program)(G:Glo)(f:FuncId)(args:List AV)(U:St)(Q:AV->St->Prop):Prop :=
 bodied P f=true/\∀ (w0:World) (ro0:Nat->Nat->Option Value) (K:Kn) (w:World) (vs:Array Value),WRel G w0 ro0 K U w->qh K args vs.toList ->
  Calls P f vs w fun e w'=>(∃ v' v U' K',e=.returned v'/\K.le K'/\WRel G w0 ro0 K' U' w'/\qg K' v v'/\Q v U')\/∃ c U' K',e=.panicked c/\K.le K'/\WRel G w0 ro0 K' U' w'/\G.X c U'
section
variable {P:Program}{G:Glo}{N:Nat}{env:Env}{U:St}{Q:Exit->Env->St->Prop}
theorem ZW.mono {w0:World}{ro0:Nat->Nat->Option Value}{K:Kn}{ds:List Deferred}{Q':Exit->Env->St->Prop}{e:Exit}{a:Act}{w:World}(h:ZW G w0 ro0 K N ds Q e a w)(hq:∀ e env U,Q e env U->Q' e env U):ZW G w0 ro0 K N ds Q' e a w:=by
 rcases h with ⟨K',env',U',h1,h2,h3,hd,h4⟩|h
 . exact .inl ⟨K',env',U',h1,h2,h3,hd,hq _ _ _ h4⟩
 . exact .inr h
theorem AWp.mono {c:Code}{Q':Exit->Env->St->Prop}(h:AWp P G N c env U Q)(hq:∀ e env U,Q e env U->Q' e env U):AWp P G N c env U Q' :=
 fun w0 ro0 K a w hw he=>wp_mono (h w0 ro0 K a w hw he) fun e a w x=>x.mono hq
theorem AWp.skip (h:Q .normal env U):AWp P G N .skip env U Q:=fun w0 ro0 K a w hw he=>wp_skip (.inl ⟨K,env,U,Kn.le_refl K,hw,he,.same rfl,h⟩)
theorem AWp.ret (h:Q .ret env U):AWp P G N .ret env U Q:=fun w0 ro0 K a w hw he=>wp_ret (.inl ⟨K,env,U,Kn.le_refl K,hw,he,.same rfl,h⟩)
theorem AWp.exit {id:Nat}(h:Q (.exit id) env U):AWp P G N (.exit id) env U Q:=fun w0 ro0 K a w hw he=>wp_exit (.inl ⟨K,env,U,Kn.le_refl K,hw,he,.same rfl,h⟩)
def wo (next:Env->St->Prop)(Q:Exit->Env->St->Prop):Exit->Env->St->Prop
 | .normal,env,U=>next env U
 | e,env,U=>Q e env U
theorem ZW.after {w0:World}{ro0:Nat->Nat->Option Value}{K K':Kn}(hle:K.le K'){ds ds':List Deferred}(hd:Dfr K ds K' ds'){e:Exit}{a:Act}{w:World}(h:ZW G w0 ro0 K' N ds' Q e a w):ZW G w0 ro0 K N ds Q e a w:=by
 rcases h with ⟨K1,env',U',h1,h2,h3,hd',h4⟩|⟨c,K1,U',e,h1,h2,hd',h4⟩
 . exact .inl ⟨K1,env',U',Kn.le_trans hle h1,h2,h3,hd.trans hle h1 hd',h4⟩
 . exact .inr ⟨c,K1,U',e,Kn.le_trans hle h1,h2,hd.trans hle h1 hd',h4⟩
theorem AWp.seq {x y:Code}(h:AWp P G N x env U (wo (fun env U=>AWp P G N y env U Q) Q)):AWp P G N (.seq x y) env U Q:=by
 intro w0 ro0 K a w hw he;refine wp_seq (wp_mono (h w0 ro0 K a w hw he) ?_);intro e a' w' hp;rcases hp with ⟨K',env',U',h1,h2,h3,hd,h4⟩|⟨c,K',U',rfl,hp⟩
 case inr=>exact .inr ⟨c,K',U',rfl,hp⟩
 cases e with
 | normal=>exact wp_mono (h4 w0 ro0 K' a' w' h2 h3) fun e a w x=>x.after h1 hd
 | exit id=>exact .inl ⟨K',env',U',h1,h2,h3,hd,h4⟩
 | goto l=>exact .inl ⟨K',env',U',h1,h2,h3,hd,h4⟩
 | ret=>exact .inl ⟨K',env',U',h1,h2,h3,hd,h4⟩
 | panic c=>exact .inl ⟨K',env',U',h1,h2,h3,hd,h4⟩
 | outgrown=>exact .inl ⟨K',env',U',h1,h2,h3,hd,h4⟩
theorem AWp.cond {c:Operand}{x y:Code}{b:Bool}(hc:ev G env c=.bool b)(ht:b=true->AWp P G N x env U Q)(hf:b=false->AWp P G N y env U Q):AWp P G N (.cond c x y) env U Q:=by
 intro w0 ro0 K a w hw he;have:=Q9 hw he c;rw[hc]at this;simp only[qg]at this;exact wp_cond_split this (fun e=>ht e w0 ro0 K a w hw he) (fun e=>hf e w0 ro0 K a w hw he)
def wq (id:Nat)(Q:Exit->Env->St->Prop):Exit->Env->St->Prop
 | .exit id',env,U=>if id'=id then Q .normal env U else Q (.exit id') env U
 | e,env,U=>Q e env U
theorem AWp.block {id:Nat}{c:Code}(h:AWp P G N c env U (wq id Q)):AWp P G N (.block id c) env U Q:=by
 intro w0 ro0 K a w hw he;refine wp_block (wp_mono (h w0 ro0 K a w hw he) ?_);intro e a' w' hp;rcases hp with ⟨K',env',U',h1,h2,h3,hd,h4⟩|⟨c,K',U',rfl,hp⟩
 case inr=>exact .inr ⟨c,K',U',rfl,hp⟩
 cases e with
 | exit id'=>
  simp only[wq]at h4;simp only[Exit.inBlock];split
  . rename_i e;rw[if_pos e]at h4;exact .inl ⟨K',env',U',h1,h2,h3,hd,h4⟩
  . rename_i e;rw[if_neg e]at h4;exact .inl ⟨K',env',U',h1,h2,h3,hd,h4⟩
 | normal=>exact .inl ⟨K',env',U',h1,h2,h3,hd,h4⟩
 | goto l=>exact .inl ⟨K',env',U',h1,h2,h3,hd,h4⟩
 | ret=>exact .inl ⟨K',env',U',h1,h2,h3,hd,h4⟩
 | panic c=>exact .inl ⟨K',env',U',h1,h2,h3,hd,h4⟩
 | outgrown=>exact .inl ⟨K',env',U',h1,h2,h3,hd,h4⟩
theorem AWp.loop {c:Code}(I:Nat->Env->St->Prop)(n₀:Nat)(h₀:I n₀ env U)
 (round:∀ n env U,I n env U->AWp P G N c env U (wo (fun env' U'=>∃ n',n' < n/\I n' env' U') Q)):AWp P G N (.loop c) env U Q:=by
 intro w0 ro0 K a w hw he;refine wp_loop_ghost (fun n X w=>∃ K' env' U',K.le K'/\WRel G w0 ro0 K' U' w/\ERel K' N env' X/\Dfr K a.defers K' X.defers/\I n env' U') n₀ ⟨K,env,U,Kn.le_refl K,hw,he,.same rfl,h₀⟩ ?_;intro n a' w' hI;obtain⟨K',env',U',h1,h2,h3,hd,h4⟩:=hI;refine wp_mono (round n env' U' h4 w0 ro0 K' a' w' h2 h3) ?_;intro e a2 w2 hp;rcases hp with ⟨K2,env2,U2,g1,g2,g3,gd,g4⟩|⟨c,K2,U2,rfl,g1,g2,gd,g4⟩
 case inr=>exact .inr ⟨c,K2,U2,rfl,Kn.le_trans h1 g1,g2,hd.trans h1 g1 gd,g4⟩
 have gd:=hd.trans h1 g1 gd
 cases e with
 | normal=>
  obtain⟨n',hn,hi⟩:=g4;exact⟨n',hn,K2,env2,U2,Kn.le_trans h1 g1,g2,g3,gd,hi⟩
 | exit id=>exact .inl ⟨K2,env2,U2,Kn.le_trans h1 g1,g2,g3,gd,g4⟩
 | goto l=>exact .inl ⟨K2,env2,U2,Kn.le_trans h1 g1,g2,g3,gd,g4⟩
 | ret=>exact .inl ⟨K2,env2,U2,Kn.le_trans h1 g1,g2,g3,gd,g4⟩
 | panic c=>exact .inl ⟨K2,env2,U2,Kn.le_trans h1 g1,g2,g3,gd,g4⟩
 | outgrown=>exact .inl ⟨K2,env2,U2,Kn.le_trans h1 g1,g2,g3,gd,g4⟩
end
theorem qf.glo {P:Program}{g:Nat->AV}{X:List PanicEntry->St->Prop}{f:FuncId}{args:List AV}{U:St}{Q:AV->St->Prop}(h:qf P (Jn g) f args U Q):qf P ⟨g,X⟩ f args U Q :=
 ⟨h.1,fun w0 ro0 K w vs hw hvs=>(h.2 w0 ro0 K w vs hw hvs).mono fun e w' h=>h.imp id fun ⟨_,_,_,_,_,_,h⟩=>h.elim⟩
end Go.Abs
end
section
namespace Go.Abs
open Go Go.RowKit
section
def frz (H:List Blk):Nat->AV->AV
 | 0,v=>if qR v then v else .any
 | n+1,v=>if qR v then v else match v with
  | .ptr b off=>match H[b]? with
   | some (.cells c)=>.rptr ((c.drop off).map (frz H n))
   | _=>.any
  | .ms b off len sz=>match H[b]? with
   | some (.cells c)=>if off+len*sz<=c.length/\((wN sz len (c.drop off)).map (·.map (frz H n))).all (·.all AV.atom)=true then .sl sz ((wN sz len (c.drop off)).map (·.map (frz H n))) .none else .any
   | _=>.any
  | .rptr c=>.rptr (c.map (frz H n))
  | .sl sz rows _=>if (rows.map (·.map (frz H n))).all (·.all AV.atom)=true then .sl sz (rows.map (·.map (frz H n))) .none else .any
  | .fn f a b=>.fn f (a.map (frz H n)) (b.map (frz H n))
  | .agg c=>.agg (c.map (frz H n))
  | .tup c=>.tup (c.map (frz H n))
  | _=>.any
section
variable {P:Program}{G:Nat->AV}{w0:World}{ro0:Nat->Nat->Option Value}{K:Kn}{U:St}{w w':World}
theorem ql.mapRel {K K':Kn}(hro:∀ b o v,K.ro b o=some v->K'.ro b o=some v){f:AV->AV}(hf:∀ a v,qg K a v->qg K' (f a) v):∀ (c:List AV) {B off:Nat},ql K B off c->ql K' B off (c.map f)
 | [],_,_,_=>by simp[ql]
 | a::r,B,off,h=>by
  simp only[ql,qqp]at h ⊢;obtain⟨⟨v,h1,h2⟩,h3⟩:=h;exact⟨⟨v,hro _ _ _ h1,hf a v h2⟩,ql.mapRel hro hf r h3⟩
theorem qJ.mapRel {K K':Kn}(hro:∀ b o v,K.ro b o=some v->K'.ro b o=some v){f:AV->AV}(hf:∀ a v,qg K a v->qg K' (f a) v):∀ (c:List (List AV)) {B off sz:Nat},(c.map (·.map f)).all (·.all AV.atom)=true->qJ K B off sz c->qJ K' B off sz (c.map (·.map f))
 | [],_,_,_,_,_=>by simp[qJ]
 | a::r,B,off,sz,ha,h=>by
  simp only[qJ,qqp,qrR,qqi]at h ha ⊢;obtain⟨⟨h1,h2,h3⟩,h4⟩:=h;exact⟨⟨by simpa using h1,ha.1,ql.mapRel hro hf a h3⟩,qJ.mapRel hro hf r ha.2 h4⟩
def qcs (w:World):Nat->Nat->Option Value:=fun b o=>w.cell? ⟨b,o,none⟩
theorem qil (h:WRel G w0 ro0 K U w){ro':Nat->Nat->Option Value}(hro:∀ b o v,K.ro b o=some v->ro' b o=some v)(hnew:∀ B o v,w0.heap.size<=B->K.ro B o=none->w.cell? ⟨B,o,none⟩=some v->ro' B o=some v) :
 ∀ (n:Nat) {a:AV} {v:Value},qg K a v->qg (K0 ro') (frz U.H n a) v:=by
 have base:∀ {a:AV} {v:Value},qR a=true->qg K a v->qg (K0 ro') a v:=fun hn hv=>(qg.toK0 _ hn hv).mono (qeU hro)
 intro n
 induction n with
 | zero=>
  intro a v hv;unfold frz;split
  . rename_i hn;exact base hn hv
  . simp[qg]
 | succ n ih=>
  intro a v hv;unfold frz;split
  . rename_i hn;exact base hn hv
  . cases a with
    | ptr b off=>
     simp only;split
     . rename_i c hb;simp only[qg]at hv ⊢;obtain⟨B,hm,rfl⟩:=hv;obtain⟨B',g1,g2,g3,⟨cs,el,g4,g5,g6,g7⟩,g8⟩:=h.blk b _ hb;rw[hm]at g1;cases g1;refine⟨B,off,rfl,ql.intro B _ _ fun i x e=>?_⟩;rw[qqB,qqj]at e;obtain⟨y,e1,rfl⟩:=e;rw[qq1]at e1;obtain⟨u,u1,u2⟩:=g7 _ _ e1;refine⟨u,hnew _ _ _ g2 (g8 _) ?_,ih u2⟩;simp only[World.cell?,g4];exact u1
     . simp[qg]
    | ms b off len sz=>
     simp only;split
     . rename_i c hb;split
       . rename_i hl;obtain⟨hl,hat⟩:=hl;simp only[qg]at hv ⊢;obtain⟨B,cap,hm,rfl,h1,h2⟩:=hv;obtain⟨B',g1,g2,g3,⟨cs,el,g4,g5,g6,g7⟩,g8⟩:=h.blk b _ hb;rw[hm]at g1;cases g1;obtain⟨k1,k2⟩:=ZN sz len (c.drop off) (by simp;omega);refine .inr ⟨B,off,cap,by simp[k1],by simpa[k1] using h1,qJ.intro B sz _ off fun i r e=>?_,trivial⟩;have hatr:=qqo.1 hat r (qqd e);rw[qqB,qqj]at e;obtain⟨r0,e0,rfl⟩:=e;obtain⟨e1,e2⟩:=k2 i r0 e0;have hmul:(i+1)*sz<=len*sz:=qrj _ (by omega);rw[qra,Nat.one_mul]at hmul;refine⟨by rw[e1];simp;omega,hatr,ql.intro B _ _ fun j x ex=>?_⟩;rw[qqB,qqj]at ex;obtain⟨y,ey,rfl⟩:=ex;rw[e1,qq2]at ey;split at ey
         . rw[qq1,qq1]at ey;obtain⟨u,u1,u2⟩:=g7 _ _ ey;refine⟨u,hnew _ _ _ g2 (g8 _) ?_,ih u2⟩;simp only[World.cell?,g4];simpa[qsb] using u1
         . cases ey
       . simp[qg]
     . simp[qg]
    | rptr c=>
     simp only[qg]at hv ⊢;obtain⟨B,off,h1,h2⟩:=hv;exact⟨B,off,h1,ql.mapRel hro (fun a v=>ih) c h2⟩
    | sl sz rows tok=>
     simp only;split
     . rename_i hat;simp only[qg]at hv ⊢;rcases hv with ⟨h1,h2,h3⟩|⟨B,off,cap,h1,h2,h3,h4⟩
       . subst h2;obtain⟨a0,h1,_⟩:=h1;exact .inl ⟨⟨a0,h1,.inr trivial⟩,rfl,trivial⟩
       . exact .inr ⟨B,off,cap,by simpa using h1,by simpa using h2,qJ.mapRel hro (fun a v=>ih) rows hat h3,trivial⟩
     . simp[qg]
    | fn f a b=>
     simp only[qg]at hv ⊢;obtain⟨va,vb,h1,h2,h3⟩:=hv;exact⟨va,vb,h1,qh.mapRel (fun a v=>ih) a h2,qh.mapRel (fun a v=>ih) b h3⟩
    | agg c=>
     simp only[qg]at hv ⊢;obtain⟨vs,h1,h2⟩:=hv;exact⟨vs,h1,qh.mapRel (fun a v=>ih) c h2⟩
    | tup c=>
     simp only[qg]at hv ⊢;obtain⟨vs,h1,h2⟩:=hv;exact⟨vs,h1,qh.mapRel (fun a v=>ih) c h2⟩
    | _=>simp[qg]
theorem qpe (h:WRel G w0 ro0 K U w)(n:Nat){a:AV}{v:Value}(hv:qg K a v):qg (K0 (qcs w)) (frz U.H n a) v :=
 qil h (ro':=qcs w) (fun b o v e=>h.ro b o v e) (fun _ _ _ _ _ e=>e) n hv
theorem qim (h:WRel G w0 ro0 K U w)(n:Nat){a:AV}{v:Value}(hv:qg K a v):qg (K0 (w6 w0 w K.ro)) (frz U.H n a) v :=
 qil h (ro':=w6 w0 w K.ro) (fun b o v e=>JC _ _ _ _ _ _ e) (fun B o v hb hr e=>by simp only[w6,hr];rw[if_pos hb];exact e) n hv
def qpk:AV->Bool
 | .bool _ | .int .. | .str _ | .nilp | .nilm | .nilf=>true
 | .sl _ rows tok=>rows.isEmpty&&(match tok with | .chain .. =>false | _=>true)
 | _=>false
def flat:AV->Bool
 | .agg c=>c.all qpk
 | .tup c=>c.all qpk
 | v=>qpk v
def qgg:AV->Bool
 | .bool _ | .int .. | .str _ | .nilp | .nilm | .nilf=>true
 | _=>false
def bare:AV->Bool
 | .agg c=>c.all qgg
 | .tup c=>c.all qgg
 | v=>qgg v
theorem qbK {K K':Kn}{a:AV}{v:Value}(hf:qgg a=true)(h:qg K a v):qg K' a v:=by
 cases a<;>simp only[qgg]at hf<;>first | (cases hf;done) | simpa[qg] using h
theorem Kh {K K':Kn}:∀ (l:List AV) {vs:List Value},l.all qgg=true->qh K l vs->qh K' l vs
 | [],_,_,h=>by simpa[qh] using h
 | a::r,_,hf,h=>by
  simp only[qh,qrR,qqi]at h hf ⊢;obtain⟨v,vr,h1,h2,h3⟩:=h;exact⟨v,vr,h1,qbK hf.1 h2,Kh r hf.2 h3⟩
theorem qmj {K K':Kn}{a:AV}{v:Value}(hf:bare a=true)(h:qg K a v):qg K' a v:=by
 unfold bare at hf;split at hf
 . simp only[qg]at h ⊢;obtain⟨vs,h1,h2⟩:=h;exact⟨vs,h1,Kh _ hf h2⟩
 . simp only[qg]at h ⊢;obtain⟨vs,h1,h2⟩:=h;exact⟨vs,h1,Kh _ hf h2⟩
 . exact qbK hf h
def Qf (P:Program)(G:Nat->AV)(g:FuncId)(args:List AV)(U:St)(r:AV):Prop :=
 (qv (args.map plain)=true/\Pure P G g (args.map plain) r)\/(bare r=true/\Pure P G g (args.map (frz U.H 8)) r)
theorem WRel.keep (hw:WRel G w0 ro0 K U w){ro':Nat->Nat->Option Value}(hb:Below w.heap.size w w')(h1:∀ b o v,K.ro b o=some v->ro' b o=some v)(h2:∀ b o v,ro' b o=some v->w'.cell? ⟨b,o,none⟩=some v)
 (h3:∀ b o v,ro' b o=some v->b<w.heap.size->K.ro b o=some v):K.le { K with ro:=ro' }/\WRel G w0 ro0 { K with ro:=ro' } U w':=by
 have hle:K.le { K with ro:=ro' }:=⟨h1,fun _ _ e=>e,qqn _,fun t C _ e=>⟨C,e,.inl rfl⟩,fun _ _ _=>rfl,fun _ _ e=>e,fun _ _ e=>e⟩;have hsz:=hw.size_le;refine⟨hle,hw.below.trans (hb.mono hsz),fun g=>(hw.glob g).mono (ZV hle),h2,fun b o v e hlt=>hw.new b o v (h3 b o v e (by omega)) hlt,?_,hw.inj,hw.mlt,?_,hw.chd,hw.chinj,hw.nch,fun i B cs el fr e1 e2=>by
  rw[hb.block B (hw.m_lt e1).1]at e2;exact hw.bsz i B cs el fr e1 e2,fun B x e=>by
  obtain⟨g1,g2,g3,g4⟩:=hw.fx B x e;exact⟨by rw[hb.block B (qqX.1 g1).1];exact g1,g2,g3,g4⟩,hw.rwl⟩
 . intro i b e;obtain⟨B,a1,a2,a3,a4,a5⟩:=hw.blk i b e;refine⟨B,a1,a2,qqr a3 hb.size,by rw[hb.block B a3];exact a4.mono hle,fun o=>?_⟩
   cases hr:ro' B o with
   | none=>exact hr
   | some u=>have:=h3 B o u hr a3;rw[a5 o]at this;cases this
 . intro t k e;obtain⟨C,a1,a2,a3,a4,⟨cs,el,a5,a6⟩,a7,a8⟩:=hw.ch t k e;have hlt:=(hw.ch_lt a1).1;refine⟨C,a1,a2,a3,a4,⟨cs,el,by rw[hb.block _ hlt];exact a5,a6⟩,fun o ho=>?_,a8⟩
   cases hr:ro' C.B o with
   | none=>exact hr
   | some u=>have:=h3 C.B o u hr hlt;rw[a7 o ho]at this;cases this
theorem pcall (hw:WRel G w0 ro0 K U w){g:FuncId}{args:List AV}{r:AV}(hp:Qf P G g args U r){vs:Array Value}(hvs:qh K args vs.toList) :
 Calls P g vs w fun e w'=>∃ v' K',e=.returned v'/\K.le K'/\WRel G w0 ro0 K' U w'/\qg K' r v':=by
 rcases hp with ⟨hno,hp⟩|⟨hfl,hp⟩
 . have hvs':qh (K0 K.ro) (args.map plain) vs.toList:=qh.toK0 _ hno (qh.mapRel (fun _ _=>qhr) _ hvs);refine (hp.2 w K.ro vs hw.glob hw.ro hvs').mono ?_;rintro e w' ⟨v',ro',rfl,hb,h1,h2,h3,h4⟩;obtain⟨hle,hw'⟩:=hw.keep hb h1 h2 h3;exact⟨v',{ K with ro:=ro' },rfl,hle,hw',h4.mono (K0_le _)⟩
 . have hvs':qh (K0 (qcs w)) (args.map (frz U.H 8)) vs.toList:=qh.mapRel (fun _ _=>qpe hw 8) _ hvs;have hro:∀ b o v,K.ro b o=some v->qcs w b o=some v:=hw.ro;refine (hp.2 w (qcs w) vs (fun g=>(hw.glob g).mono (qeU hro)) (fun _ _ _ e=>e) hvs').mono ?_;rintro e w' ⟨v',ro',rfl,hb,h1,h2,h3,h4⟩;obtain⟨hle,hw'⟩:=hw.keep (ro':=K.ro) hb (fun _ _ _ e=>e) (fun b o v e=>h2 b o v (h1 b o v (hro b o v e))) (fun _ _ _ e _=>e);exact⟨v',_,rfl,hle,hw',qmj hfl h4⟩
theorem Qf.bodied {g:FuncId}{args:List AV}{r:AV}(h:Qf P G g args U r):bodied P g=true:=by
 rcases h with h|h
 . exact h.2.1
 . exact h.2.1
theorem Qf.acall {G:Glo}{g:FuncId}{args:List AV}{r:AV}{Q:AV->St->Prop}(h:Qf P G g args U r)(hq:Q r U):qf P G g args U Q :=
 ⟨h.bodied,fun w0 ro0 K w vs hw hvs=>(pcall hw h hvs).mono fun e w' ⟨v',K',h1,h2,h3,h4⟩=>.inl ⟨v',r,U,K',h1,h2,h3,h4,hq⟩⟩
end
end
section
def qiC (U:St):AV->Option AV
 | .iter b=>match U.H[b]? with
  | some (.miter (some mb) _ seen stepped)=>match U.H[mb]? with
   | some (.map es clock)=>match seen.getLast? with
    | some st=>if clock=stepped then (es.find? (fun e=>e.2.2==st)).map fun e=>.tup [e.1,e.2.1] else none
    | none=>none
   | _=>none
  | _=>none
 | _=>none
def qk0:AV->AV->Option (List Bool)
 | .sl _ (_::_) _,.sl _ [] .nil=>some [false]
 | .sl _ [] .nil,.sl _ [] .nil=>some [true]
 | .sl _ [] _,.sl _ [] .nil=>some [true,false]
 | .ms ..,.sl _ [] .nil=>some [false]
 | .nilp,.nilp=>some [true]
 | .ptr ..,.nilp=>some [false]
 | .rptr _,.nilp=>some [false]
 | .nilm,.nilm=>some [true]
 | .map _,.nilm=>some [false]
 | .nilf,.nilf=>some [true]
 | .fn ..,.nilf=>some [false]
 | _,_=>none
def TD.isSl:TD->Bool | .sl _=>true | _=>false
def TD.isPtr:TD->Bool | .ptr _=>true | _=>false
def TD.isMap:TD->Bool | .map .. =>true | _=>false
def TD.isFn:TD->Bool | .fn=>true | _=>false
theorem TD.isSl_spec {d:TD}(h:d.isSl=true):∃ e,d=.sl e:=by cases d<;>simp[TD.isSl]at h;exact⟨_,rfl⟩
theorem TD.isPtr_spec {d:TD}(h:d.isPtr=true):∃ e,d=.ptr e:=by cases d<;>simp[TD.isPtr]at h;exact⟨_,rfl⟩
theorem TD.isMap_spec {d:TD}(h:d.isMap=true):∃ k e,d=.map k e:=by cases d<;>simp[TD.isMap]at h;exact⟨_,_,rfl⟩
theorem TD.isFn_spec {d:TD}(h:d.isFn=true):d=.fn:=by cases d<;>simp[TD.isFn]at h;rfl
def Zq (d:TD):AV->Bool
 | .sl .. =>d.isSl
 | .ms .. =>d.isSl
 | .nilp=>d.isPtr
 | .ptr .. =>d.isPtr
 | .rptr _=>d.isPtr
 | .nilm=>d.isMap
 | .map _=>d.isMap
 | .nilf=>d.isFn
 | .fn .. =>d.isFn
 | _=>false
def Wh (D:Nat->Option TI)(neg:Bool)(t:Nat)(x y:AV)(U:St):Option (List (AV×St)) :=
 match qk0 x y with
 | some l=>if Zq (qU D t) x then some (l.map fun b=>(.bool (b != neg),U)) else none
 | none=>none
def WV (U:St)(j:TI)(x:AV):Option (Nat×List AV) :=
 match x with
 | .sl sz rows _=>if sz=j.size\/rows=[] then some (rows.length,rows.flatten) else none
 | .ms b off len sz=>if sz=j.size then (match U.H[b]? with
  | some (.cells c)=>(cut c off (len*sz)).map fun s=>(len,s)
  | _=>none) else none
 | _=>none
def jg (D:Nat->Option TI)(U:St)(t u:Nat)(s x:AV):Option (AV×St) :=
 match D t with
 | some i=>match i.d with
  | .sl e=>match D e with
   | some j=>
    if 0<j.size/\j.zero.length=j.size/\j.bytes<=256 then
     match qU D u with
     | .int _=>match s,x with
      | .sl _ [] .nil,.int _ n=>if 0<n/\n<=549755813888/\j.zero.all AV.atom=true then some (.ms U.H.length 0 n.toNat j.size,U.push (.cells (List.replicate n.toNat j.zero).flatten)) else none
      | _,_=>none
     | .sl _=>match WV U j x with
      | some (n,src)=>
       if n=0 then none else
       match s with
       | .sl sz rows tok=>match tok with
        | .nil=>if rows.length+n<=549755813888 then some (.ms U.H.length 0 (rows.length+n) j.size,U.push (.cells (rows.flatten++src))) else none
        | .tight=>if (sz=j.size\/rows=[])/\rows.length+n<=549755813888 then some (.ms U.H.length 0 (rows.length+n) j.size,U.push (.cells (rows.flatten++src))) else none
        | _=>none
       | .ms b off len sz=>match U.H[b]? with
        | some (.cells c)=>if sz=j.size/\off=0/\len+n<=549755813888/\len*sz<=c.length then
         some (.ms U.H.length 0 (len+n) sz,{ U with H:=U.H.set b .dead++[.cells (c.take (len*sz)++src)] })
         else none
        | _=>none
       | _=>none
      | none=>none
     | _=>none
    else none
   | none=>none
  | _=>none
 | none=>none
def zx (D:Nat->Option TI)(U:St)(t u:Nat)(s x:AV):Option (AV×St) :=
 match jg D U t u s x with
 | some p=>some p
 | none=>match s,x with
  | .ms b off len sz,.sl sz' [] tok=>(match qU D t,qU D u with
   | .sl e,.sl _=>(match D e with | some j=>some (.ms b off len sz,U) | none=>none)
   | _,_=>none)
  | _,_=>none
def qiZ (D:Nat->Option TI)(U:St)(t:Nat)(x:AV):Option St :=
 match D t with
 | some i=>match i.d,x with
  | .sl e,.sl _ [] _=>some U
  | .sl e,.ms b off len sz=>match D e,U.H[b]? with
   | some j,some (.cells c)=>if sz=j.size/\j.zero.length=j.size/\0<j.size/\j.zero.all AV.atom=true/\off+len*sz<=c.length then some { U with H:=U.H.set b (.cells (zj c off (List.replicate len j.zero).flatten)) } else none
   | _,_=>none
  | _,_=>none
 | none=>none
def capA (D:Nat->Option TI)(t:Nat)(x:AV):Option AV :=
 match D t with
 | some i=>match i.d,x with
  | .sl _,.sl _ [] .nil=>some (.int .i64 0)
  | _,_=>none
 | none=>none
def V5:AV->Option Nat
 | .sl _ rows _=>some rows.length
 | .ms _ _ len _=>some len
 | _=>none
def qmR (U:St)(sz m:Nat):AV->Option (List AV)
 | .sl s rows _=>if s=sz/\m<=rows.length then some (rows.take m).flatten else none
 | .ms b off len s=>if s=sz/\m<=len then (match U.H[b]? with
  | some (.cells c)=>cut c off (m*sz)
  | _=>none) else none
 | _=>none
def yJ (D:Nat->Option TI)(U:St)(t:Nat)(d s:AV):Option (AV×St) :=
 match D t,V5 d,V5 s with
 | some i,some dl,some n=>match i.d with
  | .sl e=>match D e with
   | some j=>
    if min n dl=0 then some (.int .i64 0,U) else
    match d with
    | .ms b off len sz=>if sz=j.size then (match qmR U sz (min n len) s,U.H[b]? with
     | some src,some (.cells c)=>if off+min n len*sz<=c.length then some (.int .i64 (min n len:Nat),{ U with H:=U.H.set b (.cells (zj c off src)) }) else none
     | _,_=>none) else none
    | _=>none
   | none=>none
  | _=>none
 | _,_,_=>none
def mkX (D:Nat->Option TI)(mu:Bool)(U:St)(t:Nat)(l c:AV):Option (List (AV×St)) :=
 match mu,l,c with
 | true,.int _ 0,.int _ 0=>(match qx D U t l c with
  | some (.sl sz [] _,U')=>some [(.sl sz [] .tight,U')]
  | _=>none)
 | _,_,_=>none
@[simp]theorem qhN {D:Nat->Option TI}{U:St}{t:Nat}{l c:AV}:mkX D false U t l c=none:=by unfold mkX;rfl
def qay (D:Nat->Option TI)(G:Nat->AV)(mu:Bool)(env:Env)(U:St):Op->Option (List (AV×St))
 | .next it false=>qhK U (ev G env it)
 | .entry it=>(qiC U (ev G env it)).map fun v=>[(v,U)]
 | .insert t m k v=>(qZ D U t (ev G env m) (ev G env k) (ev G env v)).map fun U'=>[(.tup [],U')]
 | .makeSlice t l c=>mkX D mu U t (ev G env l) (ev G env c)
 | .binOp o t x y _=>match o with
  | .eql=>Wh D false t (ev G env x) (ev G env y) U
  | .neq=>Wh D true t (ev G env x) (ev G env y) U
  | _=>none
 | .call { callee:=.builtin b,args:=args,argTypes:=ts }=>match b,ts.toList,args.toList with
  | .append,[t,u],[s,x]=>match mu with
   | true=>(zx D U t u (ev G env s) (ev G env x)).map fun p=>[p]
   | false=>none
  | .clear,[t],[x]=>(qiZ D U t (ev G env x)).map fun U'=>[(.tup [],U')]
  | .cap,[t],[x]=>(capA D t (ev G env x)).map fun v=>[(v,U)]
  | .copy,[t,_],[d,s]=>(yJ D U t (ev G env d) (ev G env s)).map fun p=>[p]
  | _,_,_=>none
 | _=>none
section
variable {P:Program}{G:Nat->AV}{w0:World}{ro0:Nat->Nat->Option Value}{K:Kn}{U:St}{w w':World}{N:Nat}{env:Env}{a:Act}
theorem qc1 (h:WRel G w0 ro0 K U w){x:Value}{a v:AV}(hx:qg K a x)(hf:qiC U a=some v):∃ v',(Instr.entry x).run P w=.ok v' w/\qg K v v':=by
 unfold qiC at hf;split at hf
 case h_2=>cases hf
 rename_i b;simp only[qg]at hx;obtain⟨B,hm,rfl⟩:=hx;split at hf
 case h_2=>cases hf
 rename_i mb since seen stepped hb;obtain⟨B',h1,hB0,hBl,h4,_⟩:=h.blk b _ hb;rw[hm]at h1;cases h1;obtain⟨mB,h5,h6⟩:=h4;simp only at h6;obtain⟨M,hmM,rfl⟩:=h6;split at hf
 case h_2=>cases hf
 rename_i es clock hes;obtain⟨M',g1,g2,g3,⟨es',g4,g5,g6⟩,g8⟩:=h.blk mb _ hes;rw[hmM]at g1;cases g1;have hF:F2 (VX K) es es'.toList:=F2.of_get (by simpa using g5.symm) fun i e he=>by
  obtain⟨k,v,n⟩:=e;obtain⟨e',k1,k2,k3,k4⟩:=g6 i k v n he;exact⟨e',by simpa using k1,k2,k3,k4⟩
 split at hf
 case h_2=>cases hf
 rename_i st hst;split at hf
 case isFalse=>cases hf
 rename_i hcl;subst hcl;obtain⟨e,he,rfl⟩:=qqj.1 hf;have find:∀ {l:List (AV×AV×Nat)} {m:List MapEntry},F2 (VX K) l m->l.find? (fun e=>e.2.2==st)=some e->∃ e',m.find? (fun e=>e.born==st)=some e'/\VX K e e':=by
  intro l m hF
  induction hF with
  | nil=>intro he;simp at he
  | cons hr t ih=>
   rename_i a b l m;intro he;rw[qsP]at he ⊢;rw[hr.2.2];split at he
   . rename_i hb;cases he;exact⟨b,rfl,hr⟩
   . exact ih he
 obtain⟨e',f1,f2,f3,f4⟩:=find hF he;refine⟨.tuple #[e'.key,e'.val],?_,by simp only[qg];exact⟨_,rfl,by simp only[qh];exact⟨_,_,rfl,f2,_,_,rfl,f3,rfl⟩⟩⟩;have hbk:seen.toArray.back?=some st:=by simpa using hst
 have hfd:es'.find? (fun e=>e.born==st)=some e':=by rw[<- Array.find?_toList];exact f1
 simp[Instr.entry,getObj,Sem.run,h5,g4,hbk,hfd]
theorem jj {t:Nat}{d:TD}(h:qU (Dof P) t=d)(hd:d≠.other):∃ d',P.underlying t=some d'/\ve P d'=d:=by
 unfold qU at h;split at h
 . rename_i i hD;obtain⟨inf,d',z,hi,hu,_,rfl⟩:=qs hD;exact⟨d',hu,h⟩
 . exact absurd h.symm hd
theorem td_ptr {d:TypeDesc}{e:Nat}(h:ve P d=.ptr e):d=.pointer e:=by
 cases d<;>simp[ve]at h
 . exact h▸rfl
 . split at h<;>cases h
theorem td_fn {d:TypeDesc}(h:ve P d=.fn):∃ a b c,d=.func a b c:=by
 cases d<;>simp only[ve]at h<;>first | exact⟨_,_,_,rfl⟩ | (cases h;done) | (split at h<;>cases h)
theorem JN {t e:Nat}(hu:P.underlying t=some (.slice e))(bx:Option Addr)(n c:Nat):(Op.equal t (.slice bx n c) (.slice none 0 0)).run P w=.ok bx.isNone w:=by
 show (Op.equalIn (9999+1) t _ _).run P w=_;rw[Op.equalIn];simp only[Sem.run_bind,run_underlying hu,Result.andThen_ok];cases bx<;>rfl
theorem qix {t e:Nat}(hu:P.underlying t=some (.pointer e))(bx:Option Addr):(Op.equal t (.pointer bx) (.pointer none)).run P w=.ok bx.isNone w:=by
 show (Op.equalIn (9999+1) t _ _).run P w=_;rw[Op.equalIn];simp only[Sem.run_bind,run_underlying hu,Result.andThen_ok];cases bx<;>rfl
theorem qnp {t k e:Nat}(hu:P.underlying t=some (.map k e))(bx:Option Nat):(Op.equal t (.map bx) (.map none)).run P w=.ok bx.isNone w:=by
 show (Op.equalIn (9999+1) t _ _).run P w=_;rw[Op.equalIn];simp only[Sem.run_bind,run_underlying hu,Result.andThen_ok];cases bx<;>rfl
theorem eq_fn0 {t:Nat}{a b:Array TypeId}{c:Bool}(hu:P.underlying t=some (.func a b c)):(Op.equal t .nilFunc .nilFunc).run P w=.ok true w:=by
 show (Op.equalIn (9999+1) t _ _).run P w=_;rw[Op.equalIn];simp only[Sem.run_bind,run_underlying hu,Result.andThen_ok];rfl
theorem eq_fn1 {t:Nat}{a b:Array TypeId}{c:Bool}(hu:P.underlying t=some (.func a b c))(f:Fn)(x y:Array Value):(Op.equal t (.func f x y) .nilFunc).run P w=.ok false w:=by
 show (Op.equalIn (9999+1) t _ _).run P w=_;rw[Op.equalIn];simp only[Sem.run_bind,run_underlying hu,Result.andThen_ok];rfl
def refV:Value->Bool
 | .slice .. =>true
 | .pointer _=>true
 | .map _=>true
 | .nilFunc=>true
 | .func .. =>true
 | _=>false
theorem qfE {t:Nat}{x y:AV}{l:List Bool}{x' y':Value}(hx:qg K x x')(hy:qg K y y')(hl:qk0 x y=some l)(hfit:Zq (qU (Dof P) t) x=true) :
 ∃ b∈l,(Op.equal t x' y').run P w=.ok b w/\refV x'=true:=by
 have nils:∀ {sz:Nat},qg K (.sl sz [] .nil) y'->y'=.slice none 0 0:=by
  intro sz h;simp only[qg]at h;rcases h with ⟨⟨a0,h1,ha0⟩,_⟩|⟨B,off,cap,h1,h2,h3,h4⟩
  . rw[h1,ha0.resolve_right (by simp)]
  . simp[kj]at h4
 have slT:(qU (Dof P) t).isSl=true->∃ e,P.underlying t=some (.slice e):=by
  intro he;obtain⟨e,he⟩:=TD.isSl_spec he;obtain⟨d',hu,hd'⟩:=jj he (by simp);exact⟨e,by rw[hu,wZ hd']⟩
 have ptrT:(qU (Dof P) t).isPtr=true->∃ e,P.underlying t=some (.pointer e):=by
  intro he;obtain⟨e,he⟩:=TD.isPtr_spec he;obtain⟨d',hu,hd'⟩:=jj he (by simp);exact⟨e,by rw[hu,td_ptr hd']⟩
 have mapT:(qU (Dof P) t).isMap=true->∃ k e,P.underlying t=some (.map k e):=by
  intro he;obtain⟨k,e,he⟩:=TD.isMap_spec he;obtain⟨d',hu,hd'⟩:=jj he (by simp);exact⟨k,e,by rw[hu,J7 hd']⟩
 have fnT:(qU (Dof P) t).isFn=true->∃ a b c,P.underlying t=some (.func a b c):=by
  intro he;obtain⟨d',hu,hd'⟩:=jj (TD.isFn_spec he) (by simp);obtain⟨a,b,c,rfl⟩:=td_fn hd';exact⟨a,b,c,hu⟩
 have slOf:∀ {sz rows tok},qg K (.sl sz rows tok) x'->∃ bx n c,x'=.slice bx n c/\(rows≠[]->bx.isNone=false)/\(tok=.nil->bx=none):=by
  intro sz rows tok h;simp only[qg]at h;rcases h with ⟨⟨a0,h1,ha0⟩,h2,_⟩|⟨B,off,cap,h1,h2,h3,h4⟩
  . exact⟨a0,0,0,h1,fun hne=>absurd h2 hne,fun ht=>ha0.resolve_right (by rw[ht];simp)⟩
  . exact⟨_,_,_,h1,fun _=>rfl,fun ht=>by subst ht;simp[kj]at h4⟩
 unfold qk0 at hl;split at hl
 case h_12=>cases hl
 all_goals cases hl
 all_goals simp only[Zq]at hfit
 . obtain⟨e,hu⟩:=slT hfit;have:=nils hy;subst this;obtain⟨bx,n,c,rfl,h1,h2⟩:=slOf hx;exact⟨false,by simp,by rw[JN hu,h1 (by simp)],rfl⟩
 . obtain⟨e,hu⟩:=slT hfit;have:=nils hy;subst this;obtain⟨bx,n,c,rfl,h1,h2⟩:=slOf hx;exact⟨true,by simp,by rw[JN hu,h2 rfl];rfl,rfl⟩
 . obtain⟨e,hu⟩:=slT hfit;have:=nils hy;subst this;obtain⟨bx,n,c,rfl,h1,h2⟩:=slOf hx;exact⟨bx.isNone,by cases bx<;>simp,JN hu _ _ _,rfl⟩
 . obtain⟨e,hu⟩:=slT hfit;have:=nils hy;subst this;simp only[qg]at hx;obtain⟨B,cap,hm,rfl,_⟩:=hx;exact⟨false,by simp,by rw[JN hu];rfl,rfl⟩
 . obtain⟨e,hu⟩:=ptrT hfit;simp only[qg]at hx hy;subst hx;subst hy;exact⟨true,by simp,by rw[qix hu];rfl,rfl⟩
 . obtain⟨e,hu⟩:=ptrT hfit;simp only[qg]at hx hy;obtain⟨B,hm,rfl⟩:=hx;subst hy;exact⟨false,by simp,by rw[qix hu];rfl,rfl⟩
 . obtain⟨e,hu⟩:=ptrT hfit;simp only[qg]at hx hy;obtain⟨B,off,rfl,_⟩:=hx;subst hy;exact⟨false,by simp,by rw[qix hu];rfl,rfl⟩
 . obtain⟨k,e,hu⟩:=mapT hfit;simp only[qg]at hx hy;subst hx;subst hy;exact⟨true,by simp,by rw[qnp hu];rfl,rfl⟩
 . obtain⟨k,e,hu⟩:=mapT hfit;simp only[qg]at hx hy;obtain⟨B,hm,rfl⟩:=hx;subst hy;exact⟨false,by simp,by rw[qnp hu];rfl,rfl⟩
 . obtain⟨u1,u2,u3,hu⟩:=fnT hfit;simp only[qg]at hx hy;subst hx;subst hy;exact⟨true,by simp,eq_fn0 hu,rfl⟩
 . obtain⟨u1,u2,u3,hu⟩:=fnT hfit;simp only[qg]at hx hy;obtain⟨va,vb,rfl,_,_⟩:=hx;subst hy;exact⟨false,by simp,eq_fn1 hu _ _ _,rfl⟩
theorem Z6 (h:WRel G w0 ro0 K U w){t:Nat}{x y:AV}{l:List (AV×St)}{x' y':Value}(hx:qg K x x')(hy:qg K y y'){neg:Bool}(hf:Wh (Dof P) neg t x y U=some l)(ox oy:Operand) :
 ∃ v U',(v,U')∈l/\U'=U/\∃ v',(do eqGuard (if neg then .neq else .eql) t ox oy x' y';binOp (if neg then .neq else .eql) t x' y':Sem Value).run P w=.ok v' w/\qg K v v':=by
 unfold Wh at hf;split at hf
 . rename_i bs hbs;split at hf
   . rename_i hfit;simp only[Option.some.injEq]at hf;subst hf;obtain⟨b,hb,hrun,h1⟩:=qfE (w:=w) hx hy hbs hfit;refine⟨.bool (b != neg),U,qqG.2 ⟨b,hb,rfl⟩,rfl,.bool (b != neg),?_,by simp[qg]⟩;cases neg<;>cases x'<;>simp only[refV]at h1<;>first | (cases h1;done) | skip
     all_goals
      simp only[qqy,if_false,if_true];rw[Sem.run_bind];simp only[eqGuard,pure];simp[binOp,hrun]
   . cases hf
 . cases hf
end
end
end Go.Abs
end
section
namespace Go.Abs
def zg (f:Nat->Bool):Nat->Nat
 | 0=>0
 | n+1=>zg f n+cond (f n) (2 ^ n) 0
theorem y8 (f:Nat->Bool):∀ n,zg f n<2 ^ n
 | 0=>by simp[zg]
 | n+1=>by
  have:=y8 f n;simp only[zg,Nat.pow_succ];cases f n<;>simp<;>omega
theorem qS (f:Nat->Bool):∀ (n k:Nat),(zg f n).testBit k=(decide (k<n)&&f k)
 | 0,k=>by simp[zg]
 | n+1,k=>by
  have h:=y8 f n;have ih:=qS f n;simp only[zg];by_cases hk:k=n
  . subst hk
    cases hf:f k with
    | true=>
     simp only[cond_true];rw[Nat.add_comm,Nat.testBit_two_pow_add_eq,Nat.testBit_lt_two_pow h];simp
    | false=>simp;rw[ih k];simp[hf]
  . by_cases hl:k<n
    . cases hf:f n with
      | true=>
       simp only[cond_true];rw[Nat.add_comm,Nat.testBit_two_pow_add_gt hl,ih k];simp[hl,Nat.lt_succ_of_lt hl]
      | false=>simp[ih k,hl];intro;omega
    . have hge:n+1<=k:=(by omega);have hb:zg f n+cond (f n) (2 ^ n) 0<2 ^ k:=by
       have:2 ^ (n+1)<=2 ^ k:=Nat.pow_le_pow_right (by omega) hge;rw[Nat.pow_succ]at this;cases f n<;>simp<;>omega
      rw[Nat.testBit_lt_two_pow hb];simp;omega
theorem zh {f g:Nat->Bool}:∀ {n:Nat},(∀ k,k<n->f k=g k)->zg f n=zg g n
 | 0,_=>rfl
 | n+1,h=>by simp only[zg];rw[zh fun k hk=>h k (by omega),h n (by omega)]
theorem ZY (m n:Nat):zg (fun k=>m.testBit k) n=m % 2 ^ n:=by
 apply Nat.eq_of_testBit_eq;intro k;rw[qS,Nat.testBit_mod_two_pow]
theorem yZ {f:Nat->Bool}:∀ {n:Nat},(∀ k,k<n->f k=false)->zg f n=0
 | 0,_=>rfl
 | n+1,h=>by simp only[zg];rw[yZ fun k hk=>h k (by omega),h n (by omega)];simp
def V6 (x y:Nat->Bool)(c:Bool):Nat->Bool
 | 0=>c
 | k+1=>(x k&&y k)||((x k ^^ y k)&&V6 x y c k)
def b2n (b:Bool):Nat:=cond b 1 0
theorem qao (x y:Nat->Bool)(c:Bool):∀ n,zg (fun k=>(x k ^^ y k) ^^ V6 x y c k) n+2 ^ n*b2n (V6 x y c n)=zg x n+zg y n+b2n c
 | 0=>by simp[zg,V6]
 | n+1=>by
  have ih:=qao x y c n;simp only[zg,V6,Nat.pow_succ];generalize zg (fun k=>(x k ^^ y k) ^^ V6 x y c k) n=s at *;generalize V6 x y c n=q at *;generalize 2 ^ n=p at *;cases hx:x n<;>cases hy:y n<;>cases q<;>simp[b2n]at ih ⊢<;>omega
theorem kq (x y:Nat->Bool)(c:Bool)(n:Nat):zg (fun k=>(x k ^^ y k) ^^ V6 x y c k) n=(zg x n+zg y n+b2n c) % 2 ^ n:=by
 have h:=qao x y c n;have h1:=y8 (fun k=>(x k ^^ y k) ^^ V6 x y c k) n;rw[<- h,Nat.add_mul_mod_self_left,Nat.mod_eq_of_lt h1]
theorem WO (x:Nat->Bool):∀ n,zg (fun k=>!x k) n=2 ^ n-1-zg x n
 | 0=>rfl
 | n+1=>by
  have:=y8 x n;have:=WO x n;simp only[zg,Nat.pow_succ];cases x n<;>simp<;>omega
def qcJ (x y:Nat->Bool):Nat->Bool
 | 0=>false
 | k+1=>(!x k&&y k)||(!(x k ^^ y k)&&qcJ x y k)
theorem vU (x y:Nat->Bool):∀ n,qcJ x y n=decide (zg x n<zg y n)
 | 0=>by simp[qcJ,zg]
 | n+1=>by
  have ih:=vU x y n;have h1:=y8 x n;have h2:=y8 y n;simp only[qcJ,zg,ih];rcases Bool.eq_false_or_eq_true (x n) with hx|hx<;>rcases Bool.eq_false_or_eq_true (y n) with hy|hy<;>simp[hx,hy]<;>omega
def eqT (x y:Nat->Bool):Nat->Bool
 | 0=>true
 | k+1=>eqT x y k&&!(x k ^^ y k)
theorem Vv (x y:Nat->Bool):∀ n,eqT x y n=decide (zg x n=zg y n)
 | 0=>by simp[eqT,zg]
 | n+1=>by
  have ih:=Vv x y n;have h1:=y8 x n;have h2:=y8 y n;simp only[eqT,zg,ih];rcases Bool.eq_false_or_eq_true (x n) with hx|hx<;>rcases Bool.eq_false_or_eq_true (y n) with hy|hy<;>simp[hx,hy]<;>omega
def Zi (x:Nat->Bool):Nat->Bool
 | 0=>false
 | k+1=>Zi x k||x k
theorem Zh (x:Nat->Bool):∀ n,Zi x n=decide (zg x n≠0)
 | 0=>by simp[Zi,zg]
 | n+1=>by
  have ih:=Zh x n;have:0<2 ^ n:=Nat.pow_pos (by omega);simp only[Zi,zg,ih];rcases Bool.eq_false_or_eq_true (x n) with hx|hx<;>simp[hx]<;>omega
theorem qgJ (x:Nat->Bool)(k n:Nat):zg (fun i=>decide (k<=i)&&x (i-k)) n=(zg x n*2 ^ k) % 2 ^ n:=by
 apply Nat.eq_of_testBit_eq;intro i;rw[qS,Nat.testBit_mod_two_pow,Nat.testBit_mul_two_pow,qS];by_cases h1:i<n<;>by_cases h2:k<=i<;>simp[h1,h2];intro;omega
theorem qgK (x:Nat->Bool)(k n:Nat):zg (fun i=>decide (i+k<n)&&x (i+k)) n=zg x n / 2 ^ k:=by
 apply Nat.eq_of_testBit_eq;intro i;rw[qS,Nat.testBit_div_two_pow,qS];by_cases h1:i<n<;>by_cases h2:i+k<n<;>simp[h1,h2,Nat.add_comm k i]
 . omega
def qoV (a:Nat)(y:Nat->Bool)(n:Nat):Nat->Nat
 | 0=>0
 | k+1=>(qoV a y n k+cond (y k) ((a*2 ^ k) % 2 ^ n) 0) % 2 ^ n
theorem qaY (a:Nat)(y:Nat->Bool)(n:Nat):∀ k,qoV a y n k=(a*zg y k) % 2 ^ n
 | 0=>by simp[qoV,zg]
 | k+1=>by
  simp only[qoV,zg,qaY a y n k,Nat.mul_add]
  cases y k with
  | true=>simp[Nat.add_mod]
  | false=>simp
def W5 (x:Nat->Bool):Nat->Nat
 | 0=>0
 | k+1=>W5 x k+b2n (x k)
theorem qd8 (x:Nat->Bool):∀ n,W5 x n<=n
 | 0=>Nat.le_refl _
 | n+1=>by have:=qd8 x n;simp only[W5,b2n];cases x n<;>simp<;>omega
theorem qjZ (x y:Nat->Bool)(n:Nat):zg (fun k=>x k&&y k) n=zg x n &&& zg y n:=by
 apply Nat.eq_of_testBit_eq;intro i;rw[Nat.testBit_and,qS,qS,qS];cases decide (i<n)<;>simp
theorem qn2 (x y:Nat->Bool)(n:Nat):zg (fun k=>x k||y k) n=zg x n ||| zg y n:=by
 apply Nat.eq_of_testBit_eq;intro i;rw[Nat.testBit_or,qS,qS,qS];cases decide (i<n)<;>simp
theorem qjY (x y:Nat->Bool)(n:Nat):zg (fun k=>x k ^^ y k) n=zg x n ^^^ zg y n:=by
 apply Nat.eq_of_testBit_eq;intro i;rw[Nat.testBit_xor,qS,qS,qS];cases decide (i<n)<;>simp
theorem WN (t:Bool):∀ n,zg (fun k=>decide (k=0)&&t) (n+1)=b2n t
 | 0=>by cases t<;>rfl
 | n+1=>by
  have:=WN t n;rw[zg,this];simp
section
def wT {α:Type}(f:α->Nat):List α->Nat
 | []=>0
 | a::r=>f a+wT f r
section
variable {α β:Type}
theorem kW {f g:α->Nat}:∀ {l:List α},(∀ a∈l,f a=g a)->wT f l=wT g l
 | [],_=>rfl
 | a::r,h=>by simp only[wT];rw[h a (by simp),kW fun x hx=>h x (by simp[hx])]
theorem qdE (c:Nat)(f:α->Nat):∀ l:List α,wT (fun a=>c*f a) l=c*wT f l
 | []=>by simp[wT]
 | a::r=>by simp only[wT,qdE c f r,Nat.mul_add]
theorem Ya {f:α->Nat}:∀ {l:List α},(∀ a∈l,f a=0)->wT f l=0
 | [],_=>rfl
 | a::r,h=>by simp only[wT];rw[h a (by simp),Ya fun x hx=>h x (by simp[hx])]
theorem qgV {f:α->Nat}{l:List α}{a:α}(h:a∈l):f a<=wT f l:=by
 induction l with
 | nil=>cases h
 | cons b r ih=>
  rcases List.mem_cons.1 h with rfl|h
  . simp only[wT];omega
  . have:=ih h;simp only[wT];omega
end
section
variable {α:Type}
end
def lim:Nat:=1099511627777
def sat (n:Nat):Nat:=min n lim
theorem Yf (n:Nat):sat n<=lim:=Nat.min_le_right _ _
theorem qoi (a b:Nat):sat (sat a+sat b)=sat (a+b):=by unfold sat lim;omega
theorem qoh (a b:Nat):sat (sat a*sat b)=sat (a*b):=by
 have key:∀ x y:Nat,lim<=x->0<y->lim<=x*y:=fun x y hx hy=>Nat.le_trans hx (Nat.le_mul_of_pos_right x hy)
 have top:∀ x:Nat,lim<=x->sat x=lim:=fun x h=>Nat.min_eq_right h
 have low:∀ x:Nat,x<=lim->sat x=x:=fun x h=>Nat.min_eq_left h
 have lp:0<lim:=by unfold lim;omega
 rcases Nat.eq_zero_or_pos a with rfl|ha0
 . simp[sat]
 rcases Nat.eq_zero_or_pos b with rfl|hb0
 . simp[sat]
 by_cases ha:a<=lim
 . rw[low a ha];by_cases hb:b<=lim
   . rw[low b hb]
   . rw[top b (by omega),top (a*lim) (by rw[Nat.mul_comm];exact key _ _ (Nat.le_refl _) ha0),top (a*b) (by rw[Nat.mul_comm];exact key _ _ (by omega) ha0)]
 . rw[top a (by omega),top (a*b) (key _ _ (by omega) hb0)];refine top _ (key _ _ (Nat.le_refl _) ?_);unfold sat;omega
theorem Yh {n:Nat}:sat n=0↔n=0:=by unfold sat lim;omega
theorem sat_lt {n:Nat}(h:sat n≠lim):sat n=n:=by unfold sat at *;omega
end
end Go.Abs
end
