/- A part of the proof. -/
import Derived.Test.YtoibbcnfhhggnaaGreatDoorPa11
import Derived.Test.YtoibbcnfhhggnaaGreatDoorPa12
import Derived.Test.YtoibbcnfhhggnaaGreatDoorPa13
import Derived.Test.YtoibbcnfhhggnaaGreatDoorPa16
set_option linter.unusedVariables false
set_option linter.unusedSimpArgs false
set_option maxRecDepth 100000
set_option linter.defProp false
section
namespace Go.Proofs.YtoibbcnfhhggnaaGreatDoor
open Go Go.Abs
structure VQ (p:Problem):Prop where
 vars:p.vars.length<=1000
 names:∀ v∈p.vars,Fits v.name
 hard:p.hard.length<=10000
 soft:p.soft.length<=10000
 exprs:∀ e∈p.hard++p.soft,Wen e/\hgt e<=1000/\(pre e).length<=100000
 dists:Fits p.dists
 weights:∀ d∈p.dists,Fits d.weights
 groups:Fits p.groups
 group:∀ g∈p.groups,Fits g
structure VP (p:Problem):Prop where
 vars20:p.vars.length<=20
 names:∀ v∈p.vars,Fits v.name
 hard20:p.hard.length<=20
 soft20:p.soft.length<=20
 exprs:∀ e∈p.hard++p.soft,Wen e/\hgt e<=1000/\(pre e).length<=100000
 dists:Fits p.dists
 weights:∀ d∈p.dists,Fits d.weights
 groups:Fits p.groups
 group:∀ g∈p.groups,Fits g
 flat:p.groups.flatten.length<1000000
theorem VP.q {p:Problem}(h:VP p):VQ p:=⟨by have:=h.vars20;omega,h.names,by have:=h.hard20;omega,by have:=h.soft20;omega,h.exprs,h.dists,h.weights,h.groups,h.group⟩
theorem qmA (fs:List (FuncId×Int))(c:AV)(hc:qF c=true)(hl:Fits fs)(h:∀ q∈fs,Pure Tryz.prog GG q.1 [c] (.int .i64 q.2)):Pure Tryz.prog GG 46 [.sl 1 (fs.map fun q=>[.fn q.1 [] [c]]) .none] (.int .i64 (qU (fun q=>q.2) fs)):=by
 refine Pure.vc qe Tryz.func46 rfl (by kernel_rfl) ?_;simp;refine qE.intro (fun n env U=>∃ i,i<=fs.length/\n=fs.length-i/\env 6=.sl 1 (fs.map fun q=>[.fn q.1 [] [c]]) .none/\env 7=.int .i64 fs.length/\env 8=.int .i64 i/\U=⟨[],[]⟩/\∀ q∈fs.take i,q.2=0) fs.length ⟨0,by simp⟩ ?_;rintro n env U ⟨i,hi,rfl,h6,h7,h8,rfl,hz⟩
 cases hv:fs[i]? with
 | some q=>
  obtain⟨hc1,hv'⟩:=qql.1 hv;have hm:=qqm hv;simp[h6,h7,h8,hc1,hv'];refine qa.call (h q hm) (by simp[hc]) ?_;by_cases h0:q.2=0
  . simp[h0,h6,h7,h8];exact⟨_,by omega,i+1,by omega,rfl,wr (by omega) (by omega),by simpa using qZ (p:=fun q:FuncId×Int=>q.2=0) hv hz h0⟩
  . rw[kf hv hz h0];simp[h0]
 | none=>
  have hc1:¬ i<fs.length:=by simp at hv;omega
  have ht:fs.take i=fs:=qqu (by omega);rw[ht]at hz;rw[zl.2 hz];simp[h6,h7,h8,hc1]
theorem c61 (p:Problem)(h:VQ p):Pure Tryz.prog GG 47 [.rptr (qL p)] (.int .i64 (zX p.vars)):=by
 refine Pure.vc qe Tryz.func47 rfl (by kernel_rfl) ?_;simp;refine qa.call (vars62 p.vars (by have:=h.vars;omega) h.names) (by simp) ?_;simp
theorem c63 (p:Problem)(h:VQ p):Pure Tryz.prog GG 49 [.rptr (qL p)] (.int .i64 (qU (zm p.vars) (p.hard++p.soft))):=by
 refine Pure.vc qe Tryz.func49 rfl (by kernel_rfl) ?_;have:=qpQ p (by have:=h.vars;omega) h.hard h.soft h.exprs;simp only[qL]at this;simp;refine qa.call this (by simp) ?_;simp
theorem c65 (p:Problem)(h:VQ p):Pure Tryz.prog GG 51 [.rptr (qL p)] (.int .i64 (yl p.vars p.dists)):=by
 refine Pure.vc qe Tryz.func51 rfl (by kernel_rfl) ?_;have:=qpZ p h.dists h.weights;simp only[qL]at this;simp;refine qa.call this (by simp) ?_;simp
theorem c67 (p:Problem)(h:VQ p):Pure Tryz.prog GG 53 [.rptr (qL p)] (.int .i64 (zC p.vars p.groups)):=by
 refine Pure.vc qe Tryz.func53 rfl (by kernel_rfl) ?_;have:=ql1 p h.vars h.groups h.group;simp only[qL]at this;simp;refine qa.call this (by simp) ?_;simp
theorem qan (p:Problem):qU (fun q:FuncId×Int=>q.2) [(47,zX p.vars),(49,qU (zm p.vars) (p.hard++p.soft)),(51,yl p.vars p.dists),(53,zC p.vars p.groups)]=qk p:=by
 simp only[qU,qk];by_cases h1:zX p.vars=0
 . by_cases h2:qU (zm p.vars) (p.hard++p.soft)=0
   . by_cases h3:yl p.vars p.dists=0
     . by_cases h4:zC p.vars p.groups=0<;>simp[h1,h2,h3,h4]
     . simp[h1,h2,h3]
   . simp[h1,h2]
 . simp[h1]
theorem jW (p:Problem)(h:VQ p):Pure Tryz.prog GG 27 [.agg (qL p)] (.int .i64 (qk p)):=by
 refine Pure.vc qe Tryz.func27 rfl (by kernel_rfl) ?_;have hk:=qmA [(47,zX p.vars),(49,qU (zm p.vars) (p.hard++p.soft)),(51,yl p.vars p.dists),(53,zC p.vars p.groups)] (.rptr (qL p)) (by simp) (by simp) (by
  intro q hq;simp only[qqM,qrI,or_false]at hq;rcases hq with rfl|rfl|rfl|rfl
  . exact c61 p h
  . exact c63 p h
  . exact c65 p h
  . exact c67 p h)
 rw[qan]at hk;simp[qh,qw];refine qa.lent hk rfl ?_ ?_
 . simp[frz]
 . simp
theorem WR (p:Problem)(h:VQ p)(hfl:p.groups.flatten.length<4611686018427387904):Pure Tryz.prog GG 6 [.agg (qL p)] (.int .i64 (qk p)):=by
 refine Pure.vc qe Tryz.func6 rfl (by kernel_rfl) ?_;have hlv:Fits p.vars:=by have:=h.vars;omega
 simp;refine qa.call (qb9 p.vars hlv h.names) (by simp) ?_;by_cases h1:zX p.vars=0
 . simp[h1];refine qa.call (Zu p.vars hlv p.hard (by have:=h.hard;omega) fun e he=>h.exprs e (qqX _ he)) (by simp) ?_;by_cases h2:qU (zm p.vars) p.hard=0
   . simp[h2];refine qa.call (Zu p.vars hlv p.soft (by have:=h.soft;omega) fun e he=>h.exprs e (qrp _ he)) (by simp) ?_;by_cases h3:qU (zm p.vars) p.soft=0
     . have h23:qU (zm p.vars) (p.hard++p.soft)=0:=(by rw[jR,if_pos h2,h3]);simp[h3];refine qa.call (qpY p.vars p.dists hlv h.dists h.weights) (by simp) ?_;by_cases h4:yl p.vars p.dists=0
       . simp[h4];have hv20:p.vars.length<=20:=by
          apply Classical.byContradiction;intro hn;have h16:16<p.vars.length:=(by omega);have e:zX p.vars=2:=(by simp[zX,h16]);omega
         refine qa.call (ql0 p.vars p.groups hv20 h.groups h.group hfl) (by simp) ?_;have x:qk p=zC p.vars p.groups:=(by unfold qk;simp[h1,h23,h4]);rw[x];by_cases hg:jS p.vars p.groups
         . rw[Vd hg,show zC p.vars p.groups=0 by unfold zC;rw[if_pos hg]];simp
         . rw[QM hg,show zC p.vars p.groups=1 by unfold zC;rw[if_neg hg]];simp
       . have x:qk p=yl p.vars p.dists:=(by unfold qk;simp[h1,h23,h4]);rw[x];simp[h4]
     . have x:qk p=qU (zm p.vars) p.soft:=by
        have h23:qU (zm p.vars) (p.hard++p.soft)=qU (zm p.vars) p.soft:=(by rw[jR,if_pos h2]);unfold qk;rw[h23];simp[h1,h3]
       rw[x];simp[h3]
   . have x:qk p=qU (zm p.vars) p.hard:=by
      have h23:qU (zm p.vars) (p.hard++p.soft)=qU (zm p.vars) p.hard:=(by rw[jR,if_neg h2]);unfold qk;rw[h23];simp[h1,h2]
     rw[x];simp[h2]
 . have x:qk p=zX p.vars:=(by unfold qk;simp[h1]);rw[x];simp[h1]
theorem qoi (p:Problem)(h:VP p):Pure Tryz.prog GG 6 [.agg (qL p)] (.int .i64 (qk p)):=WR p h.q (by have:=h.flat;omega)
theorem qfl {p:Problem}(h:qk p=0):p.vars.length<=16/\∀ v∈p.vars,1<=v.width/\v.width<=8:=by
 have hv:zX p.vars=0:=by
  unfold qk at h;split at h
  . exact absurd h (by assumption)
  . rename_i h1;exact qq8.1 h1
 unfold zX at hv;split at hv
 . cases hv
 . rename_i h16;split at hv
   . rename_i h1;exact absurd hv h1
   . rename_i h1;have h1:=qq8.1 h1;refine⟨by omega,fun v hm=>?_⟩;have:jF v=0:=zl.1 h1 v hm;exact (qR this).2
structure HC (p:Problem)(c:List (List Int)):Prop where
 fits:Fits c
 each:∀ l∈c,Fits l
theorem wid28 {p:Problem}(h:qk p=0):∀ v∈p.vars,0<=v.width/\v.width<=28:=fun v hv=>by
 have:=(qfl h).2 v hv;omega
noncomputable def wa (p:Problem)(c:List (List Int)):Bool:=decide (qk p=0)&&yH p.vars c
theorem qcf (p:Problem)(c:List (List Int))(h:VQ p)(hc:HC p c):Pure Tryz.prog GG 13 [.agg (qL p),.agg (zW c)] (.bool (wa p c)):=by
 refine Pure.k qe Tryz.func13 rfl (by kernel_rfl) ?_;have h54:=jW p h;have hfv:Fits p.vars:=by have:=h.vars;show p.vars.length<_;omega
 unfold wa;by_cases hv:qk p=0
 . have h55:=qiM p c hfv hc.fits hc.each (wid28 hv);rw[hv]at h54;simp[-getElem?_pos];refine qd.call (G:=jj GG) (by simpa using h54) (by simp) ?_;simp[-getElem?_pos];refine qd.call (G:=jj GG) (by simpa using h55) (by simp) ?_;simp[-getElem?_pos,hv]
 . simp[-getElem?_pos];refine qd.call (G:=jj GG) (by simpa using h54) (by simp) ?_;simp[-getElem?_pos,hv]
noncomputable def QN (p:Problem)(c:List (List Int))(v:Int):List Int :=
 if wa p c=true/\0<=v then
  match p.vars[v.toNat]?,c[v.toNat]? with
  | some x,some l=>if x.mode=2 then Vs x.width l else []
  | _,_=>[]
 else []
theorem qce {p:Problem}{c:List (List Int)}(h:wa p c=true):qk p=0/\c.length=p.vars.length/\∀ (k:Nat) (v:Var) (l:List Int),p.vars[k]?=some v->c[k]?=some l->okV v l=true:=by
 simp only[wa,qqq,decide_eq_true_eq]at h;have hl:c.length=p.vars.length:=by
  have:=h.2;simp only[yH,qqq,decide_eq_true_eq]at this;exact this.1
 exact⟨h.1,hl,(Qn hl).1 h.2⟩
theorem qpq:Leq (.sl 0 [] .nil) (.sl 1 [] .none):=by simp[Leq]
theorem qno (p:Problem)(c:List (List Int))(v:Int)(h:VQ p)(hc:HC p c):Pure Tryz.prog GG 17 [.agg (qL p),.agg (zW c),.int .i64 v] (.sl 1 ((QN p c v).map qo) .none):=by
 refine Pure.k qe Tryz.func17 rfl (by kernel_rfl) ?_;have h21:=qcf p c h hc;simp only[qL,zW]at h21;simp[-getElem?_pos];refine qd.call (G:=jj GG) h21 (by simp) ?_;cases hv:wa p c
 case false=>
  have:QN p c v=[]:=by simp[QN,hv]
  simp[-getElem?_pos,this]
 obtain⟨hv0,hl,hok⟩:=qce hv;by_cases v0:v<0
 . have:QN p c v=[]:=by simp only[QN];rw[if_neg (by omega)]
   simp[-getElem?_pos,this,v0]
 by_cases v1:(p.vars.length:Int)<=v
 . have hn:p.vars[v.toNat]?=none:=(by rw[qsW];omega);have:QN p c v=[]:=by simp only[QN,hn];split<;>rfl
   simp[-getElem?_pos,this,v0,v1]
 obtain⟨n,rfl⟩:=qqR (a:=v) (by omega);have hn:n<p.vars.length:=by omega
 obtain⟨x,hx⟩:∃ x,p.vars[n]?=some x:=⟨_,qqo hn⟩;obtain⟨l,hlx⟩:∃ l,c[n]?=some l:=⟨_,qqo (by omega)⟩;have hw:=wid28 hv0 x (qqm hx);have hfl:=hc.each l (qqm hlx);by_cases hm:x.mode=2
 case neg=>
  have:QN p c n=[]:=by simp[QN,hx,hlx,hm]
  simp[-getElem?_pos,this,v0,v1,hx,hm]
 have hL:QN p c n=Vs x.width l:=by simp[QN,hx,hlx,hm,hv]
 rw[hL];have hu:=qdB x.width hw.1 hw.2 l hfl;have hu0:=qdB x.width hw.1 hw.2 [] (by simp);simp[-getElem?_pos,v0,v1,hx,hm,hlx];refine qd.call (G:=jj GG) hu (by simp) ?_;unfold Vs;by_cases hr:yF x.width l=[]
 . rw[if_pos hr];simp[-getElem?_pos,v0,v1,hx,hm,hlx,hr];refine qd.less (G:=jj GG) hu0 (by simp[qF,qq,qT]) (by simp only[zj,qqQ];exact⟨Leq.refl _,qpq,trivial⟩) ?_;simp[-getElem?_pos]
 . have hpos:(0:Int)<(yF x.width l).length:=(by have:=qqB.2 hr;omega);rw[if_neg hr];simp[-getElem?_pos,v0,v1,hx,hm,hlx,hr,hpos]
def JC (l:List Var)(i:Nat):List Int:=((List.range i).filter fun (j:Nat)=>yA l (j:Int)).map fun (j:Nat)=>(j:Int)
theorem Yt {l:List Var}{i:Nat}:JC l (i+1)=if yA l (i:Int)=true then JC l i++[(i:Int)] else JC l i:=by
 unfold JC;rw[qrN,List.filter_append];by_cases h:yA l (i:Int)=true
 . simp[h]
 . simp[h]
theorem W6 {l:List Var}{i:Nat}:(JC l i).length<=i:=by
 unfold JC;rw[qqZ];exact qro (qr8 _ _) (by simp)
noncomputable def qC (p:Problem):List Int:=if qk p≠0 then [] else JC p.vars p.vars.length
def qbZ (s:List Int):AV:=match s with
 | []=>.sl 0 [] .nil
 | a::r=>.sl 1 ((a::r).map qo) (.chain 0 (r.length+1))
theorem qec (s:List Int)(H:List Blk):qF (fin H (qbZ s))=true/\Leq (fin H (qbZ s)) (.sl 1 (s.map qo) .none):=by
 cases s with
 | nil=>simp[qbZ,Leq]
 | cons a r=>simp[qbZ,Leq]
def JE (s:List Int):List (Option Nat):=match s with
 | []=>[]
 | _::r=>[some (r.length+1)]
theorem qhC (p:Problem)(h:VQ p):Pure Tryz.prog GG 167 [.agg (qL p)] (.sl 1 ((qC p).map qo) .none):=by
 refine Pure.vc qe Tryz.func167 rfl (by kernel_rfl) ?_;have hv:=jW p h;have hr:∀ i,Pure Tryz.prog GG 82 [.agg [.sl 4 (p.vars.map qp) .none,.sl 4 (p.hard.map qu) .none,.sl 4 (p.soft.map qu) .none,.sl 2 (p.dists.map zH) .none,.sl 1 (p.groups.map qN) .none],.int .i64 i] (.bool (yA p.vars i)):=fun i=>by
  have hr:=jU GG p i;rw[W5]at hr;simpa only[qL] using hr
 simp only[qL]at hv;have hv20:=h.vars;simp;refine qa.call hv (by simp) ?_;by_cases h0:qk p=0
 . have x:qC p=JC p.vars p.vars.length:=(by simp[qC,h0]);rw[x];simp[h0];refine qE.intro (fun q env U=>∃ i,i<=p.vars.length/\q=p.vars.length-i/\env 1=.ptr 0 0/\env 3=qbZ (JC p.vars i)/\env 10=.int .i64 p.vars.length/\env 11=.int .i64 i/\U=⟨[.cells (qL p)],JE (JC p.vars i)⟩) p.vars.length ⟨0,by simp[JC,qbZ,JE]⟩ ?_;rintro q env U ⟨i,hi,rfl,h1,h3,h10,h11,rfl⟩;by_cases hc:i<p.vars.length
   . have hc':(i:Int)<p.vars.length:=(by omega);have hlen:=W6 (l:=p.vars) (i:=i);have hs:=Yt (l:=p.vars) (i:=i);simp[h1,h3,h10,h11,hc];refine qa.call (hr i) (by simp) ?_;cases hri:yA p.vars (i:Int)
     . rw[hri]at hs;simp[h1,h3,h10,h11];exact⟨_,by omega,i+1,by omega,rfl,by rw[hs];rfl,wr (by omega) (by omega),by rw[hs];rfl⟩
     . rw[hri,if_pos rfl]at hs;generalize hR:JC p.vars i=R at h3 hlen hs ⊢
       cases R with
       | nil=>
        simp only[qbZ]at h3;simp[h1,h3,h10,h11,JE,qD,qh,qw,zg];exact⟨_,by omega,i+1,by omega,rfl,by rw[hs];simp[qbZ],wr (by omega) (by omega),by rw[hs];simp[JE]⟩
       | cons a r=>
        have hb:r.length<=549755813886:=(by simp at hlen;omega);simp only[qbZ]at h3;simp[h1,h3,h10,h11,JE,qD,qh,qw,zg,hb];exact⟨_,by omega,i+1,by omega,rfl,by rw[hs];simp[qbZ],wr (by omega) (by omega),by rw[hs];simp[JE]⟩
   . have hi':i=p.vars.length:=(by omega);subst hi';have he:=qec (JC p.vars p.vars.length) [.cells (qL p)];simp[h1,h3,h10,h11];simpa using he
 . have x:qC p=[]:=(by simp[qC,h0]);rw[x];simp[h0,Leq]
theorem qhB (p:Problem)(h:VQ p)(hv20:p.vars.length<=20)(hfl:p.groups.flatten.length<4611686018427387904):Pure Tryz.prog GG 23 [.agg (qL p)] (.sl 1 ((qC p).map qo) .none):=by
 refine Pure.vc qe Tryz.func23 rfl (by kernel_rfl) ?_;have hv:=WR p h hfl;simp only[qL]at hv;simp;refine qa.call hv (by simp) ?_;by_cases h0:qk p=0
 . have x:qC p=JC p.vars p.vars.length:=(by simp[qC,h0]);rw[x];simp[h0];refine qE.intro (fun q env U=>∃ i,i<=p.vars.length/\q=p.vars.length-i/\env 1=.ptr 0 0/\env 3=qbZ (JC p.vars i)/\env 4=.int .i64 i/\U=⟨[.cells (qL p)],JE (JC p.vars i)⟩) p.vars.length ⟨0,by simp[JC,qbZ,JE]⟩ ?_;rintro q env U ⟨i,hi,rfl,h1,h3,h4,rfl⟩;by_cases hc:i<p.vars.length
   . have hc':(i:Int)<p.vars.length:=(by omega);have hlen:=W6 (l:=p.vars) (i:=i);have hs:=Yt (l:=p.vars) (i:=i);have hrr:yA p.vars (i:Int)=(p.vars[i].mode != 0):=(by simp[yA,qqo hc]);by_cases m0:p.vars[i].mode=0
     . have hri:yA p.vars (i:Int)=false:=(by rw[hrr];simp[m0]);rw[hri]at hs;simp[h1,h3,h4,hc,m0];exact⟨_,by omega,i+1,by omega,rfl,by rw[hs];rfl,wr (by omega) (by omega),by rw[hs];rfl⟩
     . have hri:yA p.vars (i:Int)=true:=(by rw[hrr];simp[m0]);rw[hri,if_pos rfl]at hs;generalize hR:JC p.vars i=R at h3 hlen hs ⊢
       cases R with
       | nil=>
        simp only[qbZ]at h3;simp[h1,h3,h4,hc,m0,JE,qD,qh,qw,zg];exact⟨_,by omega,i+1,by omega,rfl,by rw[hs];simp[qbZ],wr (by omega) (by omega),by rw[hs];simp[JE]⟩
       | cons a r=>
        have hb:r.length<=549755813886:=(by simp at hlen;omega);simp only[qbZ]at h3;simp[h1,h3,h4,hc,m0,JE,qD,qh,qw,zg,hb];exact⟨_,by omega,i+1,by omega,rfl,by rw[hs];simp[qbZ],wr (by omega) (by omega),by rw[hs];simp[JE]⟩
   . have hi':i=p.vars.length:=(by omega);subst hi';have he:=qec (JC p.vars p.vars.length) [.cells (qL p)];simp[h1,h3,h4];simpa using he
 . have x:qC p=[]:=(by simp[qC,h0]);rw[x];simp[h0,Leq]
structure VH (p:Problem):Prop where
 names:∀ v∈p.vars,Fits v.name
 exprs:∀ e∈p.hard++p.soft,Wen e
 dists:Fits p.dists
 weights:∀ d∈p.dists,Fits d.weights
 groups:Fits p.groups
 group:∀ g∈p.groups,Fits g
theorem J3 {l:List Var}{i:Nat}(h:i<l.length):zG l i=l[i].width:=by simp[zG,qqo h]
def yJ (l:List Var)(s:List Int):Int:=s.foldl (fun n i=>IntKind.i64.wrap (n+zG l i.toNat)) 0
theorem Zd {p:Problem}{i:Int}(h:i∈qC p):0<=i/\i<p.vars.length:=by
 unfold qC at h;split at h
 . cases h
 . unfold JC at h;obtain⟨j,hj,rfl⟩:=qqS.1 h;have:=qra.1 (qsT.1 hj).1;omega
theorem Jk (p:Problem)(h:p.vars.length<=20):(qC p).length<=20:=by
 unfold qC;split
 . simp
 . exact qro W6 h
theorem qdE {l:List Var}{s:List Int}{i:Nat}{v:Int}(h:s[i]?=some v):yJ l (s.take (i+1))=IntKind.i64.wrap (yJ l (s.take i)+zG l v.toNat):=by
 unfold yJ;rw[qqT,h,qrC];rfl
theorem qp5 (p:Problem)(h:VQ p)(hv20:p.vars.length<=20)(hfl:p.groups.flatten.length<4611686018427387904):Pure Tryz.prog GG 7 [.agg (qL p)] (.int .i64 (yJ p.vars (qC p))):=by
 refine Pure.vc qe Tryz.func7 rfl (by kernel_rfl) ?_;have hv:=qhB p h hv20 hfl;have hlen:=Jk p hv20;have hrg:∀ i∈qC p,0<=i/\i<p.vars.length:=fun i hi=>Zd hi
 simp only[qL]at hv;generalize qC p=R at hv hlen hrg ⊢;simp;refine qa.call hv (by simp) ?_
 try simp
 refine qE.intro (fun q env U=>∃ i,i<=R.length/\q=R.length-i/\env 1=.ptr 0 0/\env 3=.sl 1 (R.map qo) .none/\env 4=.int .i64 (yJ p.vars (R.take i))/\env 5=.int .i64 i/\U=⟨[.cells (qL p)],[]⟩) R.length ⟨0,by simp[yJ]⟩ ?_;rintro q env U ⟨i,hi,rfl,h1,h3,h4,h5,rfl⟩
 cases hvi:R[i]? with
 | some v=>
  obtain⟨hc,hv'⟩:=qql.1 hvi;obtain⟨r1,r2⟩:=hrg v (qqm hvi);obtain⟨j,rfl⟩:=qqR r1;have hj:j<p.vars.length:=by omega
  have hs:=qdE (l:=p.vars) hvi;simp only[qrg]at hs;rw[J3 hj]at hs;simp[h1,h3,h4,h5,hc,hv',hj];exact⟨_,by omega,i+1,by omega,rfl,by rw[hs],wr (by omega) (by omega)⟩
 | none=>
  have hc:¬ i<R.length:=by simp at hvi;omega
  have ht:R.take i=R:=qqu (by omega);rw[ht]at h4;simp[h1,h3,h4,h5,hc]
theorem qoA (e:Ex)(hwe:Wen e)(hh:hgt e<=1000)(hsz:(pre e).length<=200000000000):Pure Tryz.prog GG 39 [.agg (qu e)] (.int .i64 (vo e)):=by
 refine Pure.k qe Tryz.func39 rfl (by kernel_rfl) ?_;simp only[qc e];simp[-getElem?_pos];rw[<- qc e];refine qd.acall (qhN e hwe hh hsz _) ?_;rintro r U ⟨b,V,A,tv,ta,rfl,hb⟩;simp[-getElem?_pos,hb]
def ww (l:List Ex):Bool:=decide (l.length<=5)&&(l.take 6).all fun e=>ya e 8&&decide (vo e<=20)
theorem qiS (l:List Ex)(hl:Fits l)(hw:∀ e∈l,Wen e):Pure Tryz.prog GG 18 [.sl 4 (l.map qu) .none] (.bool (ww l)):=by
 refine Pure.k qe Tryz.func18 rfl (by kernel_rfl) ?_;simp[-getElem?_pos];obtain⟨r,hr⟩:∃ r,r=ww l:=⟨_,rfl⟩;rw[<- hr];refine qM.list (l.take 6) (fun d env U=>env 0=.sl 4 (l.map qu) .none/\env 3=.int .i64 d.length/\U=⟨[],[]⟩/\(d.all fun e=>ya e 8&&decide (vo e<=20))=true) ?_ ?_ ?_
 . simp
 . rintro d e s env U hd he hlt ⟨e0,e3,rfl,hall⟩;have hlt':d.length<6/\d.length<l.length:=(by simp at hlt;omega);have he':l[d.length]?=some e:=(by rw[qq4]at he;split at he<;>first | exact he | cases he);have hm6:=qqm he;have hwe:=hw e (qqm he');have hw1:=wr (n:=(d.length:Int)+1) (by omega) (by omega);have h6:(d.length:Int)<6:=(by omega);have hbad:(ya e 8&&decide (vo e<=20))=false->r=false:=by
    intro h;rw[hr,qru];intro h2;simp only[ww,qqq,qqy]at h2;have:=h2.2 e hm6;simp only[qtX]at h;rcases h with h|h
    . rw[h]at this;cases this.1
    . rw[h]at this;cases this.2
   simp[-getElem?_pos,e0,e3,hlt'.2,h6,he',qc e];rw[<- qc e];refine qd.call (G:=jj GG) (qkI 8 e (fun x hx=>(hwe x hx).1) (by omega)) (by simp) ?_;cases hs:ya e 8
   . have hr0:r=false:=hbad (by simp[hs]);simp[-getElem?_pos,e0,e3,unA,hr0]
   . obtain⟨q1,q2⟩:=qm5 hs;simp[-getElem?_pos,e0,e3,unA,he',qc e];rw[<- qc e];refine qd.call (G:=jj GG) (qoA e hwe (by omega) q2) (by simp) ?_;by_cases hz:vo e<=20
     . have hz':¬ 20<vo e:=(by omega);simp[-getElem?_pos,e0,e3,hz',hw1,hs,hz];simpa using hall
     . have hz':20<vo e:=(by omega);have hr0:r=false:=hbad (by simp[hs,hz]);simp[-getElem?_pos,e0,e3,hz',hr0]
 . rintro env U ⟨e0,e3,rfl,hall⟩;by_cases h5:l.length<=5
   . have hm:(l.take 6).length=l.length:=(by simp;omega);rw[hm]at e3;have hr1:r=true:=(by rw[hr];simp only[ww,h5,decide_true,qrr];exact hall);have h5':(l.length:Int)<=5:=(by omega);simp[-getElem?_pos,e0,e3,hr1,h5']
   . have hm:(l.take 6).length=6:=(by simp;omega);rw[hm]at e3;have hr0:r=false:=(by rw[hr];simp[ww,h5]);have h5':¬ (l.length:Int)<=5:=(by omega);have h6':(6:Int)<=l.length:=(by omega);simp[-getElem?_pos,e0,e3,hr0,h5']
noncomputable def kE (p:Problem):Bool :=
 decide (p.vars.length<=5)&&decide (p.dists.length<=5)&&decide (p.groups.length<=5)&&ww p.hard&&ww p.soft&&(p.dists.all fun d=>decide (d.weights.length<=20))&&(!decide (qk p=0)||decide (yJ p.vars (qC p)<=7))
structure VM (p:Problem):Prop where
 h:VH p
 vars:Fits p.vars
 hard:Fits p.hard
 soft:Fits p.soft
 grp:∀ g∈p.groups,g.length<17592186044416
theorem VM.flat {p:Problem}(h:VM p)(hg:p.groups.length<=5):p.groups.flatten.length<4611686018427387904:=by
 have:∀ (g:List (List Int)),(∀ x∈g,x.length<17592186044416)->g.flatten.length<=g.length*17592186044416:=by
  intro g
  induction g with
  | nil=>simp
  | cons a r ih=>
   intro h;have h1:=h a (by simp);have h2:=ih fun x hx=>h x (by simp[hx])
   simp only[qq3,qqr,qqC];omega
 have:=this p.groups h.grp;omega
theorem yt {l:List Ex}(h:ww l=true):l.length<=5/\∀ e∈l,hgt e<=8/\(pre e).length<=20:=by
 simp only[ww,qqq,decide_eq_true_eq,qqy]at h;refine⟨h.1,fun e he=>?_⟩;have hm:l.take 6=l:=qqu (by omega);rw[hm]at h;obtain⟨h1,h2⟩:=h.2 e he;obtain⟨q1,q2⟩:=qm5 h1;refine⟨q1,?_⟩;unfold vo at h2;rw[wr (by omega) (by omega)]at h2;omega
theorem VM.q {p:Problem}(h:VM p)(hv:p.vars.length<=5)(h1:ww p.hard=true)(h2:ww p.soft=true):VQ p:=by
 obtain⟨a1,a2⟩:=yt h1;obtain⟨b1,b2⟩:=yt h2;refine⟨by omega,h.h.names,by omega,by omega,fun e he=>?_,h.h.dists,h.h.weights,h.h.groups,h.h.group⟩;refine⟨h.h.exprs e he,?_⟩;rcases qqE.1 he with he|he
 . have:=a2 e he;omega
 . have:=b2 e he;omega
theorem qow (p:Problem)(h:VM p):Pure Tryz.prog GG 5 [.agg (qL p)] (.bool (kE p)):=by
 refine Pure.k qe Tryz.func5 rfl (by kernel_rfl) ?_;obtain⟨r,hr⟩:∃ r,r=kE p:=⟨_,rfl⟩;rw[<- hr];by_cases hv:p.vars.length<=5
 case neg=>
  have hv':(5:Int)<p.vars.length:=by omega
  have hr0:r=false:=by rw[hr];simp[kE,hv]
  simp[-getElem?_pos,hv',hr0]
 by_cases hd:p.dists.length<=5
 case neg=>
  have hv':¬ (5:Int)<p.vars.length:=by omega
  have hd':(5:Int)<p.dists.length:=by omega
  have hr0:r=false:=by rw[hr];simp[kE,hd]
  simp[-getElem?_pos,hv',hd',hr0]
 by_cases hg:p.groups.length<=5
 case neg=>
  have hv':¬ (5:Int)<p.vars.length:=by omega
  have hd':¬ (5:Int)<p.dists.length:=by omega
  have hg':(5:Int)<p.groups.length:=by omega
  have hr0:r=false:=by rw[hr];simp[kE,hg]
  simp[-getElem?_pos,hv',hd',hg',hr0]
 have hv':¬ (5:Int)<p.vars.length:=by omega
 have hd':¬ (5:Int)<p.dists.length:=by omega
 have hg':¬ (5:Int)<p.groups.length:=by omega
 have e1:=qiS p.hard h.hard fun e he=>h.h.exprs e (qqX _ he)
 have e2:=qiS p.soft h.soft fun e he=>h.h.exprs e (qrp _ he)
 simp[-getElem?_pos,hv',hd',hg'];refine qd.call (G:=jj GG) e1 (by simp) ?_;cases h1:ww p.hard
 case false=>
  have hr0:r=false:=by rw[hr];simp[kE,h1]
  simp[-getElem?_pos,unA,hr0]
 simp[-getElem?_pos,unA];refine qd.call (G:=jj GG) e2 (by simp) ?_;cases h2:ww p.soft
 case false=>
  have hr0:r=false:=by rw[hr];simp[kE,h2]
  simp[-getElem?_pos,unA,hr0]
 have hq:=h.q hv h1 h2;have h28:=WR p hq (h.flat hg);have h29:=qp5 p hq (by omega) (h.flat hg);simp only[qL]at h28 h29;simp[-getElem?_pos,unA];refine qM.list p.dists (fun d env U=>env 1=.ptr 0 0/\env 3=.int .i64 d.length/\U=⟨[.cells (qL p)],[]⟩/\(d.all fun d=>decide (d.weights.length<=20))=true) ?_ ?_ ?_
 . simp
 . rintro d x s env U hds hx hlt ⟨f1,f3,rfl,hall⟩;have hw1:=wr (n:=(d.length:Int)+1) (by omega) (by omega);by_cases hwx:x.weights.length<=20
   . have hwx':¬ (20:Int)<x.weights.length:=(by omega);simp[-getElem?_pos,f1,f3,hlt,hx,hwx',hw1,hwx];simpa using hall
   . have hwx':(20:Int)<x.weights.length:=(by omega);have hr0:r=false:=by
      rw[hr,qru];intro ht;simp only[kE,qqq,qqy,decide_eq_true_eq]at ht;exact hwx (ht.1.2 x (qqm hx))
     simp[-getElem?_pos,f1,f3,hlt,hx,hwx',hr0]
 . rintro env U ⟨f1,f3,rfl,hall⟩;have hrs:r=(!decide (qk p=0)||decide (yJ p.vars (qC p)<=7)):=by
    rw[hr];unfold kE;rw[h1,h2,hall];simp[hv,hd,hg]
   simp[-getElem?_pos,f1,f3];refine qd.call (G:=jj GG) h28 (by simp) ?_;by_cases h0:qk p=0
   . simp[-getElem?_pos,f1,h0];refine qd.call (G:=jj GG) h29 (by simp) ?_;simp[-getElem?_pos,hrs,h0]
   . simp[-getElem?_pos,f1,h0,hrs]
end Go.Proofs.YtoibbcnfhhggnaaGreatDoor
end
