/- A part of the proof. -/
import Derived.Test.YtkpkjbchlabaaaaGreatDoorSa08
set_option linter.unusedVariables false
set_option linter.unusedSimpArgs false
set_option maxRecDepth 100000
set_option linter.defProp false
section
namespace Go.Proofs.YtkpkjbchlabaaaaGreatDoor
open Go Go.Abs
theorem shl1d {w:Int}(h0:0<=w)(h1:w<=30):IntKind.i64.wrap ((2:Int) ^ min w.toNat IntKind.i64.bits)=((2 ^ w.toNat:Nat):Int):=by
 have e:min w.toNat IntKind.i64.bits=w.toNat:=qrF (by show w.toNat<=64;omega);rw[e];have:2 ^ w.toNat<=2 ^ 30:=qqJ (by omega) (by omega);have e2:(2:Int) ^ w.toNat=((2 ^ w.toNat:Nat):Int):=by simp
 rw[e2];generalize 2 ^ w.toNat=N at *;exact wr (by omega) (by omega)
theorem qhZ (w:Weight):Pure Tryz.prog GG 148 [.agg (qC w)] (.int .i64 (if w.each=true then 1 else 0)):=by
 refine Pure.k qe Tryz.func148 rfl (by kernel_rfl) ?_;cases h:w.each<;>simp[h]
theorem isS169 (w:Weight):Pure Tryz.prog GG 88 [.agg (qC w),.int .u8 115] (.bool (!w.each)):=by
 obtain⟨lo,hi,wt,each⟩:=w;have hk:=qhZ ⟨lo,hi,wt,each⟩;refine Pure.k qe Tryz.func88 rfl (by kernel_rfl) ?_;cases each
 all_goals
  simp at hk;simp;refine qc.call hk (by simp) ?_;simp;refine qc.call hk (by simp) ?_;simp
theorem isE169 (w:Weight):Pure Tryz.prog GG 88 [.agg (qC w),.int .u8 101] (.bool w.each):=by
 obtain⟨lo,hi,wt,each⟩:=w;have hk:=qhZ ⟨lo,hi,wt,each⟩;refine Pure.k qe Tryz.func88 rfl (by kernel_rfl) ?_;cases each
 all_goals
  simp at hk;simp;refine qc.call hk (by simp) ?_;simp;refine qc.call hk (by simp) ?_;simp
theorem qdp (w:Weight)(h0:0<=w.lo)(h1:w.lo<=w.hi)(h2:w.hi<=65535):Pure Tryz.prog GG 90 [.agg (qC w)] (.int .i64 (w.hi-w.lo+1)):=by
 refine Pure.k qe Tryz.func90 rfl (by kernel_rfl) ?_;have e1:IntKind.i64.wrap (w.hi-w.lo)=w.hi-w.lo:=wr (by omega) (by omega);have e2:IntKind.i64.wrap (w.hi-w.lo+1)=w.hi-w.lo+1:=wr (by omega) (by omega);simp[e1,e2]
def qpQ (N:Int)(w:Weight):Bool:=decide (w.lo<0)||decide (w.hi<w.lo)||decide (N-1<w.hi)||decide (w.weight<0)||decide (1000<w.weight)
def wS (l:List Weight)(width:Int):Int :=
 if width<1\/8<width then 1 else if 16<l.length then 2 else if l.length=0 then 1 else if l.any (qpQ ((2 ^ width.toNat:Nat):Int))=true then 1 else 0
theorem qiF (l:List Weight)(hl:Fits l)(width:Int):Pure Tryz.prog GG 85 [.sl 4 (l.map qC) .none,.int .i64 width] (.int .i64 (wS l width)):=by
 refine Pure.k qe Tryz.func85 rfl (by kernel_rfl) ?_;generalize hr:wS l width=r;unfold wS at hr;by_cases hw:width<1\/8<width
 . rw[if_pos hw]at hr;subst hr;rcases hw with h|h
   . simp[h]
   . have:¬ width<1:=by omega
     simp[h,this]
 . rw[if_neg hw]at hr;have h1:¬ width<1:=(by omega);have h2:¬ 8<width:=(by omega);have h3:¬ width<0:=(by omega);have hsh:=shl1d (w:=width) (by omega) (by omega);by_cases hb:16<l.length
   . rw[if_pos hb]at hr;subst hr;have hb':(16:Int)<l.length:=(by omega);simp[h1,h2,hb']
   . rw[if_neg hb]at hr;by_cases hz:l.length=0
     . rw[if_pos hz]at hr;subst hr;have hz':l=[]:=qqv hz;subst hz';simp[h1,h2]
     . rw[if_neg hz]at hr;have hNb:2 ^ width.toNat<=2 ^ 8:=qqJ (by omega) (by omega);have hNp:0<2 ^ width.toNat:=Nat.pow_pos (by omega);generalize 2 ^ width.toNat=N at hr hsh hNb hNp;have hN1:IntKind.i64.wrap ((N:Int)-1)=N-1:=wr (by omega) (by omega);have hb':¬ (16:Int)<l.length:=(by omega);have hz':l≠[]:=fun e=>hz (by rw[e];rfl)
       simp[h1,h2,hb',hz'];refine qX.listR l (fun d ev U=>ev 0=.sl 4 (l.map qC) .none/\ev 1=.int .i64 width/\ev 22=.sl 4 (l.map qC) .none/\ev 23=.int .i64 l.length/\ev 24=.int .i64 d.length/\d.any (qpQ N)=false) ?_ ?_ ?_
       . simp
       . rintro d w rest ev U R hR hd hx hlt ⟨e0,e1,e22,e23,e24,ha⟩;have hdw:IntKind.i64.wrap ((d.length:Int)+1)=(d.length+1:Nat):=(by rw[wr (by omega) (by omega)];omega);have hbad:qpQ N w=true->r=1:=fun h=>by
          have:l.any (qpQ N)=true:=by rw[hd];simp[h]
          rw[if_pos this]at hr;exact hr.symm
         simp[-getElem?_pos,e0,e1,e22,e23,e24,hlt,hx,h3,hsh,hN1,hdw]
         repeat' first | (with_reducible refine And.intro ?_ ?_) | (intro _)
         all_goals first
          | exact (hbad (by unfold qpQ;simp;omega)).symm
          | exact hR _ _ ⟨by simp[e0],by simp[e1],by simp[e22],by simp[e23],by simp,by simp[qpQ,ha];omega⟩
       . rintro ev U ⟨e0,e1,e22,e23,e24,ha⟩;rw[if_neg (by rw[ha];simp)]at hr;subst hr;simp[-getElem?_pos,e23,e24]
def qaM (l:List Weight)(v:Int):Option Weight:=l.find? fun w=>decide (w.lo<=v)&&decide (v<=w.hi)
theorem qkP (l:List Weight)(hl:Fits l)(v:Int):Pure Tryz.prog GG 87 [.sl 4 (l.map qC) .none,.int .i64 v]
 (match qaM l v with | some w=>.tup [.agg (qC w),.bool true] | none=>.tup [.agg (qC ⟨0,0,0,false⟩),.bool false]):=by
 refine Pure.k qe Tryz.func87 rfl (by kernel_rfl) ?_;generalize hr:qaM l v=r;unfold qaM at hr;simp;refine qX.listR l (fun d ev U=>ev 0=.sl 4 (l.map qC) .none/\ev 1=.int .i64 v/\ev 4=.ptr 0 0/\ev 8=.sl 4 (l.map qC) .none/\ev 9=.int .i64 l.length/\ev 10=.int .i64 d.length/\(∃ t,U=⟨.cells (qC ⟨0,0,0,false⟩)::t,[]⟩)/\∀ w∈d,¬ (w.lo<=v/\v<=w.hi)) ?_ ?_ ?_
 . simp
 . rintro d w rest ev U R hR hd hx hlt ⟨e0,e1,e4,e8,e9,e10,⟨t,rfl⟩,ha⟩;have hdw:IntKind.i64.wrap ((d.length:Int)+1)=(d.length+1:Nat):=(by rw[wr (by omega) (by omega)];omega);by_cases hc:w.lo<=v/\v<=w.hi
   . have:r=some w:=by
      rw[<- hr,hd,List.find?_append,qsX.2 (fun x hx=>by have:=ha x hx;simp;omega)];simp[hc]
     subst this;simp[-getElem?_pos,e0,e1,e4,e8,e9,e10,hlt,hx,hc]
   . have hgo:=hR;simp[-getElem?_pos,e0,e1,e4,e8,e9,e10,hlt,hx,hdw]
     repeat' first | (with_reducible refine And.intro ?_ ?_) | (intro _)
     all_goals first
      | (exfalso;omega)
      | exact hR _ _ ⟨by simp[e0],by simp[e1],by simp[e4],by simp[e8],by simp[e9],by simp,⟨_,rfl⟩,fun x hx=>by
       rcases qqA.1 hx with h|h
       . exact ha x h
       . simp at h;subst h;exact hc⟩
 . rintro ev U ⟨e0,e1,e4,e8,e9,e10,⟨t,rfl⟩,ha⟩;have:r=none:=by
    rw[<- hr,qsX];intro x hx;have:=ha x hx;simp;omega
   subst this;simp[-getElem?_pos,e4,e9,e10]
def wsz (w:Weight):Nat:=(w.hi-w.lo+1).toNat
def WOk (l:List Weight):Prop:=∀ w∈l,0<=w.lo/\w.lo<=w.hi/\w.hi<=255/\0<=w.weight/\w.weight<=1000
theorem qaj {l:List Weight}{width:Int}(h:wS l width=0):WOk l/\l.length<=16/\l≠[]:=by
 unfold wS at h;split at h
 . cases h
 . rename_i hw;split at h
   . cases h
   . split at h
     . cases h
     . rename_i h1 h2;split at h
       . cases h
       . rename_i hb;refine⟨fun w hw=>?_,by omega,fun e=>h2 (by rw[e];rfl)⟩;have hNb:2 ^ width.toNat<=2 ^ 8:=qqJ (by omega) (by omega);generalize 2 ^ width.toNat=N at *;simp only[qqF,not_exists,not_and,Bool.not_eq_true]at hb;have:=hb w hw;unfold qpQ at this;simp at this;omega
def jq:List Weight->Nat->Int×Int
 | [],s=>(s,0)
 | w::r,s=>if w.each=true then jq r s else if Nat.lcm s (wsz w)<9223372036854775808 then jq r (Nat.lcm s (wsz w)) else (0,3)
theorem qb2 {w:Weight}(h:w.lo<=w.hi):0<wsz w:=by unfold wsz;omega
theorem qkh (l:List Weight)(hl:l.length<=1000)(hw:WOk l):Pure Tryz.prog GG 86 [.sl 4 (l.map qC) .none] (.tup [.int .i64 (jq l 1).1,.int .i64 (jq l 1).2]):=by
 refine Pure.k qe Tryz.func86 rfl (by kernel_rfl) ?_;generalize hr:jq l 1=r;simp;refine qX.listR l (fun d ev U=>ev 0=.sl 4 (l.map qC) .none/\ev 8=.sl 4 (l.map qC) .none/\ev 9=.int .i64 l.length/\ev 10=.int .i64 d.length/\∃ s:Nat,ev 4=.int .i64 s/\0<s/\s<9223372036854775808/\jq (l.drop d.length) s=r) ?_ ?_ ?_
 . exact⟨by simp,by simp,by simp,by simp,1,by simp,by omega,by omega,by simpa using hr⟩
 . rintro d w rest ev U R hR hd hx hlt ⟨e0,e8,e9,e10,s,e4,hs0,hs1,hsc⟩;have hdw:IntKind.i64.wrap ((d.length:Int)+1)=(d.length+1:Nat):=(by rw[wr (by omega) (by omega)];omega);obtain⟨w0,w1,w2,w3,w4⟩:=hw w (qqd hx);have hdr:l.drop d.length=w::l.drop (d.length+1):=(by rw[hd];simp);rw[hdr]at hsc;have hwp:=qb2 w1;have hsz:(wsz w:Int)=w.hi-w.lo+1:=(by unfold wsz;omega);have h1:=isS169 w;have h2:=qdp w w0 w1 (by omega);have h3:=lcm249 s (wsz w) hs0 hwp hs1 (by omega);rw[hsz]at h3;have hlp:=Nat.lcm_pos hs0 hwp;have hgo:∀ (s':Nat) (ev':Env) (U':St),0<s'->s' < 9223372036854775808->jq (l.drop (d.length+1)) s'=r->ev' 0=.sl 4 (l.map qC) .none->ev' 8=.sl 4 (l.map qC) .none->ev' 9=.int .i64 l.length->ev' 10=.int .i64 (d.length+1:Nat)->ev' 4=.int .i64 s'->R ev' U':=fun s' ev' U' a1 a2 a3 a4 a5 a6 a7 a8=>
    hR _ _ ⟨a4,a5,a6,by simpa using a7,s',a8,a1,a2,by simpa using a3⟩
   obtain⟨lo,hi,wt,each⟩:=w;simp[-getElem?_pos,e0,e8,e9,e10,hlt,hx];refine qc.call h1 (by simp) ?_;cases each
   . simp only[jq,qqy,if_false]at hsc;simp[-getElem?_pos,e4];refine qc.call h2 (by simp) ?_;simp[-getElem?_pos,e4];refine qc.call h3 (by simp) ?_;generalize Nat.lcm s (wsz ⟨lo,hi,wt,false⟩)=L at hsc hlp ⊢;by_cases hL:L<9223372036854775808
     . rw[if_pos hL]at hsc;simp[-getElem?_pos,qb1,hL,e10,hdw];exact hgo L _ _ hlp hL hsc (by simp[e0]) (by simp[e8]) (by simp[e9]) (by simp) (by simp)
     . rw[if_neg hL]at hsc;subst hsc;simp[-getElem?_pos,qb1,hL]
   . simp only[jq,if_true]at hsc;simp[-getElem?_pos,e10,hdw];exact hgo s _ _ hs0 hs1 hsc (by simp[e0]) (by simp[e8]) (by simp[e9]) (by simp) (by simp[e4])
 . rintro ev U ⟨e0,e8,e9,e10,s,e4,hs0,hs1,hsc⟩;rw[qr1]at hsc;simp only[jq]at hsc;subst hsc;simp[-getElem?_pos,e9,e10,e4]
theorem vw:∀ (l:List Weight) (s:Nat),WOk l->0<s->s<9223372036854775808->((jq l s).2=0/\0<(jq l s).1/\(jq l s).1<9223372036854775808)\/jq l s=(0,3)
 | [],s,_,h0,h1=>.inl ⟨rfl,by simp only[jq];omega,by simp only[jq];omega⟩
 | w::r,s,hw,h0,h1=>by
  have hr:WOk r:=fun x hx=>hw x (by simp[hx])
  have hwp:=qb2 (hw w (by simp)).2.1;simp only[jq];split
  . exact vw r s hr h0 h1
  . split
    . rename_i h;exact vw r _ hr (Nat.lcm_pos h0 hwp) h
    . exact .inr rfl
def Zl (l:List Weight)(s:Nat)(v:Int):Int×Int:=match qaM l v with
 | none=>(0,0)
 | some w=>if w.each=true then qb1 (w.weight.toNat*s) else qb1 (w.weight.toNat*(s / wsz w))
theorem qgu (l:List Weight)(hl:l.length<=1000)(hw:WOk l)(s:Nat)(hs:s<9223372036854775808)(v:Int):Pure Tryz.prog GG 43 [.sl 4 (l.map qC) .none,.int .i64 s,.int .i64 v] (.tup [.int .i64 (Zl l s v).1,.int .i64 (Zl l s v).2]):=by
 have ho:=qkP l (by unfold Fits;omega) v;refine Pure.k qe Tryz.func43 rfl (by kernel_rfl) ?_;generalize hr:Zl l s v=r;unfold Zl at hr;simp;refine qc.call ho (by simp) ?_
 cases hf:qaM l v with
 | none=>
  rw[hf]at hr;simp only at hr;subst hr;simp
 | some w=>
  rw[hf]at hr;simp only at hr;obtain⟨w0,w1,w2,w3,w4⟩:=hw w (List.mem_of_find?_eq_some hf);have h1:=isE169 w;have h2:=qdp w w0 w1 (by omega);have hwp:=qb2 w1;have hsz:(wsz w:Int)=w.hi-w.lo+1:=by unfold wsz;omega
  rw[<- hsz]at h2;obtain⟨k,hk⟩:∃ k:Nat,w.weight=k:=⟨w.weight.toNat,by omega⟩;have hm1:=qhG k s (by omega) hs;have hq:s / wsz w<=s:=qrs _ _;have hm2:=qhG k (s / wsz w) (by omega) (by omega);have hkt:w.weight.toNat=k:=by omega
  rw[hkt]at hr;generalize hz:wsz w=z at *;have hz0:¬ z=0:=by omega
  obtain⟨q,hqe⟩:∃ q,s / z=q:=⟨_,rfl⟩;have hdiv:(s:Int).tdiv z=q:=by
   rw[qsm (by omega)];omega
  rw[hqe]at hm2 hr hq;have hqu:=wr (n:=q) (by omega) (by omega);clear hsz hwp w0 w1 w2 w3 w4 hkt hz;obtain⟨lo,hi,wt,each⟩:=w;simp only at hk;subst hk;cases each
  . simp only[qqy,if_false]at hr;subst hr;simp[-getElem?_pos];refine qc.call h1 (by simp) ?_;simp[-getElem?_pos];refine qc.call h2 (by simp) ?_;simp[-getElem?_pos,hz0,hdiv,hqu];refine qc.call hm2 (by simp) ?_;simp
  . simp only[if_true]at hr;subst hr;simp[-getElem?_pos];refine qc.call h1 (by simp) ?_;simp[-getElem?_pos];refine qc.call hm1 (by simp) ?_;simp
theorem qki (l:List Weight)(hl:l.length<=1000):Pure Tryz.prog GG 42 [.sl 4 (l.map qC) .none]
 (.tup [.int .i64 (if wS l 8=0 then (jq l 1).1 else 0),.int .i64 (if wS l 8=0 then (jq l 1).2 else wS l 8)]):=by
 have hv:=qiF l (by unfold Fits;omega) 8;refine Pure.k qe Tryz.func42 rfl (by kernel_rfl) ?_;simp;refine qc.call hv (by simp) ?_;by_cases h:wS l 8=0
 . simp[h];refine qc.call (qkh l hl (qaj h).1) (by simp) ?_;simp
 . simp[h]
def jT (l:List Weight)(v:Int):Int×Int :=
 if wS l 8≠0 then (0,wS l 8) else if (jq l 1).2≠0 then (0,(jq l 1).2) else Zl l (jq l 1).1.toNat v
theorem qdr (l:List Weight)(hl:l.length<=1000)(v:Int):Pure Tryz.prog GG 18 [.sl 4 (l.map qC) .none,.int .i64 v] (.tup [.int .i64 (jT l v).1,.int .i64 (jT l v).2]):=by
 have hs:=qki l hl;refine Pure.k qe Tryz.func18 rfl (by kernel_rfl) ?_;generalize hr:jT l v=r;unfold jT at hr;simp;refine qc.call hs (by simp) ?_;by_cases h:wS l 8=0
 . have hw:=(qaj h).1;rw[if_neg (by simp[h])]at hr;rcases vw l 1 hw (by omega) (by omega) with ⟨h1,h2,h3⟩|h1
   . rw[if_neg (by simp[h1])]at hr;have he:=qgu l hl hw (jq l 1).1.toNat (by omega) v;have e:(((jq l 1).1.toNat:Nat):Int)=(jq l 1).1:=(by omega);rw[e]at he;simp[h,h1];refine qc.call he (by simp) ?_;subst hr;simp
   . rw[h1]at hr;simp at hr;subst hr;simp[h,h1]
 . rw[if_pos h]at hr;subst hr;simp[h]
end Go.Proofs.YtkpkjbchlabaaaaGreatDoor
end
