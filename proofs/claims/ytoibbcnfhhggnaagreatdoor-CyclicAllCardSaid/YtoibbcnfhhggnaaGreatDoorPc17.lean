/- A part of the proof. -/
import Derived.Test.YtoibbcnfhhggnaaGreatDoorPc11
import Derived.Test.YtoibbcnfhhggnaaGreatDoorPc12
import Derived.Test.YtoibbcnfhhggnaaGreatDoorPc13
import Derived.Test.YtoibbcnfhhggnaaGreatDoorPc16
set_option linter.unusedVariables false
set_option linter.unusedSimpArgs false
set_option maxRecDepth 100000
set_option linter.defProp false
section
namespace Go.Proofs.YtoibbcnfhhggnaaGreatDoor
open Go Go.Abs
structure VQ (p:Problem):Prop where
 vars:p.vars.length<=1000
 names:∀ v∈p.vars,Fits v.name
 hard:p.hard.length<=10000
 soft:p.soft.length<=10000
 exprs:∀ e∈p.hard++p.soft,Wen e/\hgt e<=1000/\(pre e).length<=100000
 dists:Fits p.dists
 weights:∀ d∈p.dists,Fits d.weights
 groups:Fits p.groups
 group:∀ g∈p.groups,Fits g
theorem qmq (fs:List (FuncId×Int))(c:AV)(hc:qC c=true)(hl:Fits fs)(h:∀ q∈fs,Pure Tryz.prog GG q.1 [c] (.int .i64 q.2)):Pure Tryz.prog GG 46 [.sl 1 (fs.map fun q=>[.fn q.1 [] [c]]) .none] (.int .i64 (qR (fun q=>q.2) fs)):=by
 refine Pure.vc qe Tryz.func46 rfl (by kernel_rfl) ?_;simp;refine qD.intro (fun n env U=>∃ i,i<=fs.length/\n=fs.length-i/\env 6=.sl 1 (fs.map fun q=>[.fn q.1 [] [c]]) .none/\env 7=.int .i64 fs.length/\env 8=.int .i64 i/\U=⟨[],[]⟩/\∀ q∈fs.take i,q.2=0) fs.length ⟨0,by simp⟩ ?_;rintro n env U ⟨i,hi,rfl,h6,h7,h8,rfl,hz⟩
 cases hv:fs[i]? with
 | some q=>
  obtain⟨hc1,hv'⟩:=qp5.1 hv;have hm:=qp6 hv;simp[h6,h7,h8,hc1,hv'];refine qb.call (h q hm) (by simp[hc]) ?_;by_cases h0:q.2=0
  . simp[h0,h6,h7,h8];exact⟨_,by omega,i+1,by omega,rfl,wr (by omega) (by omega),by simpa using zh (p:=fun q:FuncId×Int=>q.2=0) hv hz h0⟩
  . rw[ku hv hz h0];simp[h0]
 | none=>
  have hc1:¬ i<fs.length:=by simp at hv;omega
  have ht:fs.take i=fs:=qqg (by omega);rw[ht]at hz;rw[zf.2 hz];simp[h6,h7,h8,hc1]
theorem c61 (p:Problem)(h:VQ p):Pure Tryz.prog GG 47 [.rptr (qJ p)] (.int .i64 (z8 p.vars)):=by
 refine Pure.vc qe Tryz.func47 rfl (by kernel_rfl) ?_;simp;refine qb.call (vars62 p.vars (by have:=h.vars;omega) h.names) (by simp) ?_;simp
theorem c63 (p:Problem)(h:VQ p):Pure Tryz.prog GG 49 [.rptr (qJ p)] (.int .i64 (qR (zg p.vars) (p.hard++p.soft))):=by
 refine Pure.vc qe Tryz.func49 rfl (by kernel_rfl) ?_;have:=qpv p (by have:=h.vars;omega) h.hard h.soft h.exprs;simp only[qJ]at this;simp;refine qb.call this (by simp) ?_;simp
theorem c65 (p:Problem)(h:VQ p):Pure Tryz.prog GG 51 [.rptr (qJ p)] (.int .i64 (ye p.vars p.dists)):=by
 refine Pure.vc qe Tryz.func51 rfl (by kernel_rfl) ?_;have:=qpE p h.dists h.weights;simp only[qJ]at this;simp;refine qb.call this (by simp) ?_;simp
theorem c67 (p:Problem)(h:VQ p):Pure Tryz.prog GG 53 [.rptr (qJ p)] (.int .i64 (zG p.vars p.groups)):=by
 refine Pure.vc qe Tryz.func53 rfl (by kernel_rfl) ?_;have:=qlQ p h.vars h.groups h.group;simp only[qJ]at this;simp;refine qb.call this (by simp) ?_;simp
theorem qat (p:Problem):qR (fun q:FuncId×Int=>q.2) [(47,z8 p.vars),(49,qR (zg p.vars) (p.hard++p.soft)),(51,ye p.vars p.dists),(53,zG p.vars p.groups)]=qi p:=by
 simp only[qR,qi];by_cases h1:z8 p.vars=0
 . by_cases h2:qR (zg p.vars) (p.hard++p.soft)=0
   . by_cases h3:ye p.vars p.dists=0
     . by_cases h4:zG p.vars p.groups=0<;>simp[h1,h2,h3,h4]
     . simp[h1,h2,h3]
   . simp[h1,h2]
 . simp[h1]
theorem j4 (p:Problem)(h:VQ p):Pure Tryz.prog GG 27 [.agg (qJ p)] (.int .i64 (qi p)):=by
 refine Pure.vc qe Tryz.func27 rfl (by kernel_rfl) ?_;have hk:=qmq [(47,z8 p.vars),(49,qR (zg p.vars) (p.hard++p.soft)),(51,ye p.vars p.dists),(53,zG p.vars p.groups)] (.rptr (qJ p)) (by simp) (by simp) (by
  intro q hq;simp only[qqv,qry,or_false]at hq;rcases hq with rfl|rfl|rfl|rfl
  . exact c61 p h
  . exact c63 p h
  . exact c65 p h
  . exact c67 p h)
 rw[qat]at hk;simp[qk,qA];refine qb.lent hk rfl ?_ ?_
 . simp[frz]
 . simp
theorem W6 (p:Problem)(h:VQ p)(hfl:p.groups.flatten.length<4611686018427387904):Pure Tryz.prog GG 6 [.agg (qJ p)] (.int .i64 (qi p)):=by
 refine Pure.vc qe Tryz.func6 rfl (by kernel_rfl) ?_;have hlv:Fits p.vars:=by have:=h.vars;omega
 simp;refine qb.call (qcc p.vars hlv h.names) (by simp) ?_;by_cases h1:z8 p.vars=0
 . simp[h1];refine qb.call (Zv p.vars hlv p.hard (by have:=h.hard;omega) fun e he=>h.exprs e (qqH _ he)) (by simp) ?_;by_cases h2:qR (zg p.vars) p.hard=0
   . simp[h2];refine qb.call (Zv p.vars hlv p.soft (by have:=h.soft;omega) fun e he=>h.exprs e (qq6 _ he)) (by simp) ?_;by_cases h3:qR (zg p.vars) p.soft=0
     . have h23:qR (zg p.vars) (p.hard++p.soft)=0:=(by rw[jS,if_pos h2,h3]);simp[h3];refine qb.call (qpD p.vars p.dists hlv h.dists h.weights) (by simp) ?_;by_cases h4:ye p.vars p.dists=0
       . simp[h4];have hv20:p.vars.length<=20:=by
          apply Classical.byContradiction;intro hn;have h16:16<p.vars.length:=(by omega);have e:z8 p.vars=2:=(by simp[z8,h16]);omega
         refine qb.call (qlP p.vars p.groups hv20 h.groups h.group hfl) (by simp) ?_;have x:qi p=zG p.vars p.groups:=(by unfold qi;simp[h1,h23,h4]);rw[x];by_cases hg:jT p.vars p.groups
         . rw[Vo hg,show zG p.vars p.groups=0 by unfold zG;rw[if_pos hg]];simp
         . rw[QO hg,show zG p.vars p.groups=1 by unfold zG;rw[if_neg hg]];simp
       . have x:qi p=ye p.vars p.dists:=(by unfold qi;simp[h1,h23,h4]);rw[x];simp[h4]
     . have x:qi p=qR (zg p.vars) p.soft:=by
        have h23:qR (zg p.vars) (p.hard++p.soft)=qR (zg p.vars) p.soft:=(by rw[jS,if_pos h2]);unfold qi;rw[h23];simp[h1,h3]
       rw[x];simp[h3]
   . have x:qi p=qR (zg p.vars) p.hard:=by
      have h23:qR (zg p.vars) (p.hard++p.soft)=qR (zg p.vars) p.hard:=(by rw[jS,if_neg h2]);unfold qi;rw[h23];simp[h1,h2]
     rw[x];simp[h2]
 . have x:qi p=z8 p.vars:=(by unfold qi;simp[h1]);rw[x];simp[h1]
theorem qfj {p:Problem}(h:qi p=0):p.vars.length<=16/\∀ v∈p.vars,1<=v.width/\v.width<=8:=by
 have hv:z8 p.vars=0:=by
  unfold qi at h;split at h
  . exact absurd h (by assumption)
  . rename_i h1;exact qqN.1 h1
 unfold z8 at hv;split at hv
 . cases hv
 . rename_i h16;split at hv
   . rename_i h1;exact absurd hv h1
   . rename_i h1;have h1:=qqN.1 h1;refine⟨by omega,fun v hm=>?_⟩;have:jL v=0:=zf.1 h1 v hm;exact (qU this).2
structure HC (p:Problem)(c:List (List Int)):Prop where
 fits:Fits c
 each:∀ l∈c,Fits l
theorem wid28 {p:Problem}(h:qi p=0):∀ v∈p.vars,0<=v.width/\v.width<=28:=fun v hv=>by
 have:=(qfj h).2 v hv;omega
noncomputable def Q4 (p:Problem)(c:List (List Int)):Bool:=decide (qi p=0)&&ya p.vars c
theorem qgZ (p:Problem)(c:List (List Int))(h:VQ p)(hc:HC p c):Pure Tryz.prog GG 13 [.agg (qJ p),.agg (jZ c)] (.bool (Q4 p c)):=by
 refine Pure.k qe Tryz.func13 rfl (by kernel_rfl) ?_;have h54:=j4 p h;have hfv:Fits p.vars:=by have:=h.vars;show p.vars.length<_;omega
 unfold Q4;by_cases hv:qi p=0
 . have h55:=qiN p c hfv hc.fits hc.each (wid28 hv);rw[hv]at h54;simp[-getElem?_pos];refine qc.call (G:=jh GG) (by simpa using h54) (by simp) ?_;simp[-getElem?_pos];refine qc.call (G:=jh GG) (by simpa using h55) (by simp) ?_;simp[-getElem?_pos,hv]
 . simp[-getElem?_pos];refine qc.call (G:=jh GG) (by simpa using h54) (by simp) ?_;simp[-getElem?_pos,hv]
noncomputable def ZS (p:Problem)(c:List (List Int))(v:Int):List Int :=
 if Q4 p c=true/\0<=v then
  match p.vars[v.toNat]?,c[v.toNat]? with
  | some x,some l=>if x.mode=2 then qo6 x.width l else []
  | _,_=>[]
 else []
theorem qcg {p:Problem}{c:List (List Int)}(h:Q4 p c=true):qi p=0/\c.length=p.vars.length/\∀ (k:Nat) (v:Var) (l:List Int),p.vars[k]?=some v->c[k]?=some l->okV v l=true:=by
 simp only[Q4,qp9,decide_eq_true_eq]at h;have hl:c.length=p.vars.length:=by
  have:=h.2;simp only[ya,qp9,decide_eq_true_eq]at this;exact this.1
 exact⟨h.1,hl,(wV hl).1 h.2⟩
theorem qo4:Leq (.sl 0 [] .nil) (.sl 1 [] .none):=by simp[Leq]
theorem left24 (p:Problem)(c:List (List Int))(v:Int)(h:VQ p)(hc:HC p c):Pure Tryz.prog GG 17 [.agg (qJ p),.agg (jZ c),.int .i64 v] (.sl 1 ((ZS p c v).map qy) .none):=by
 refine Pure.k qe Tryz.func17 rfl (by kernel_rfl) ?_;have h21:=qgZ p c h hc;simp only[qJ,jZ]at h21;simp[-getElem?_pos];refine qc.call (G:=jh GG) h21 (by simp) ?_;cases hv:Q4 p c
 case false=>
  have:ZS p c v=[]:=by simp[ZS,hv]
  simp[-getElem?_pos,this]
 obtain⟨hv0,hl,hok⟩:=qcg hv;by_cases v0:v<0
 . have:ZS p c v=[]:=by simp only[ZS];rw[if_neg (by omega)]
   simp[-getElem?_pos,this,v0]
 by_cases v1:(p.vars.length:Int)<=v
 . have hn:p.vars[v.toNat]?=none:=(by rw[qsJ];omega);have:ZS p c v=[]:=by simp only[ZS,hn];split<;>rfl
   simp[-getElem?_pos,this,v0,v1]
 obtain⟨n,rfl⟩:=qqM (a:=v) (by omega);have hn:n<p.vars.length:=by omega
 obtain⟨x,hx⟩:∃ x,p.vars[n]?=some x:=⟨_,qp8 hn⟩;obtain⟨l,hlx⟩:∃ l,c[n]?=some l:=⟨_,qp8 (by omega)⟩;have hw:=wid28 hv0 x (qp6 hx);have hfl:=hc.each l (qp6 hlx);by_cases hm:x.mode=2
 case neg=>
  have:ZS p c n=[]:=by simp[ZS,hx,hlx,hm]
  simp[-getElem?_pos,this,v0,v1,hx,hm]
 have hL:ZS p c n=qo6 x.width l:=by simp[ZS,hx,hlx,hm,hv]
 rw[hL];have hu:=qdy x.width hw.1 hw.2 l hfl;have hu0:=qdy x.width hw.1 hw.2 [] (by simp);simp[-getElem?_pos,v0,v1,hx,hm,hlx];refine qc.call (G:=jh GG) hu (by simp) ?_;unfold qo6;by_cases hr:yw x.width l=[]
 . rw[if_pos hr];simp[-getElem?_pos,v0,v1,hx,hm,hlx,hr];refine qc.less (G:=jh GG) hu0 (by simp[qC,qq,qQ]) (by simp only[zm,qqF];exact⟨Leq.refl _,qo4,trivial⟩) ?_;simp[-getElem?_pos]
 . have hpos:(0:Int)<(yw x.width l).length:=(by have:=qql.2 hr;omega);rw[if_neg hr];simp[-getElem?_pos,v0,v1,hx,hm,hlx,hr,hpos]
def JH (l:List Var)(i:Nat):List Int:=((List.range i).filter fun (j:Nat)=>yq l (j:Int)).map fun (j:Nat)=>(j:Int)
theorem YF {l:List Var}{i:Nat}:JH l (i+1)=if yq l (i:Int)=true then JH l i++[(i:Int)] else JH l i:=by
 unfold JH;rw[qrE,List.filter_append];by_cases h:yq l (i:Int)=true
 . simp[h]
 . simp[h]
theorem Vi {l:List Var}{i:Nat}:(JH l i).length<=i:=by
 unfold JH;rw[qqI];exact qq9 (qrT _ _) (by simp)
noncomputable def qz (p:Problem):List Int:=if qi p≠0 then [] else JH p.vars p.vars.length
def qb3 (s:List Int):AV:=match s with
 | []=>.sl 0 [] .nil
 | a::r=>.sl 1 ((a::r).map qy) (.chain 0 (r.length+1))
theorem qd7 (s:List Int)(H:List Blk):qC (fin H (qb3 s))=true/\Leq (fin H (qb3 s)) (.sl 1 (s.map qy) .none):=by
 cases s with
 | nil=>simp[qb3,Leq]
 | cons a r=>simp[qb3,Leq]
def JJ (s:List Int):List (Option Nat):=match s with
 | []=>[]
 | _::r=>[some (r.length+1)]
theorem qhD (p:Problem)(h:VQ p):Pure Tryz.prog GG 167 [.agg (qJ p)] (.sl 1 ((qz p).map qy) .none):=by
 refine Pure.vc qe Tryz.func167 rfl (by kernel_rfl) ?_;have hv:=j4 p h;have hr:∀ i,Pure Tryz.prog GG 82 [.agg [.sl 4 (p.vars.map qo) .none,.sl 4 (p.hard.map qs) .none,.sl 4 (p.soft.map qs) .none,.sl 2 (p.dists.map zM) .none,.sl 1 (p.groups.map zc) .none],.int .i64 i] (.bool (yq p.vars i)):=fun i=>by
  have hr:=jX GG p i;rw[Vh]at hr;simpa only[qJ] using hr
 simp only[qJ]at hv;have hv20:=h.vars;simp;refine qb.call hv (by simp) ?_;by_cases h0:qi p=0
 . have x:qz p=JH p.vars p.vars.length:=(by simp[qz,h0]);rw[x];simp[h0];refine qD.intro (fun q env U=>∃ i,i<=p.vars.length/\q=p.vars.length-i/\env 1=.ptr 0 0/\env 3=qb3 (JH p.vars i)/\env 10=.int .i64 p.vars.length/\env 11=.int .i64 i/\U=⟨[.cells (qJ p)],JJ (JH p.vars i)⟩) p.vars.length ⟨0,by simp[JH,qb3,JJ]⟩ ?_;rintro q env U ⟨i,hi,rfl,h1,h3,h10,h11,rfl⟩;by_cases hc:i<p.vars.length
   . have hc':(i:Int)<p.vars.length:=(by omega);have hlen:=Vi (l:=p.vars) (i:=i);have hs:=YF (l:=p.vars) (i:=i);simp[h1,h3,h10,h11,hc];refine qb.call (hr i) (by simp) ?_;cases hri:yq p.vars (i:Int)
     . rw[hri]at hs;simp[h1,h3,h10,h11];exact⟨_,by omega,i+1,by omega,rfl,by rw[hs];rfl,wr (by omega) (by omega),by rw[hs];rfl⟩
     . rw[hri,if_pos rfl]at hs;generalize hR:JH p.vars i=R at h3 hlen hs ⊢
       cases R with
       | nil=>
        simp only[qb3]at h3;simp[h1,h3,h10,h11,JJ,qB,qk,qA,zp];exact⟨_,by omega,i+1,by omega,rfl,by rw[hs];simp[qb3],wr (by omega) (by omega),by rw[hs];simp[JJ]⟩
       | cons a r=>
        have hb:r.length<=549755813886:=(by simp at hlen;omega);simp only[qb3]at h3;simp[h1,h3,h10,h11,JJ,qB,qk,qA,zp,hb];exact⟨_,by omega,i+1,by omega,rfl,by rw[hs];simp[qb3],wr (by omega) (by omega),by rw[hs];simp[JJ]⟩
   . have hi':i=p.vars.length:=(by omega);subst hi';have he:=qd7 (JH p.vars p.vars.length) [.cells (qJ p)];simp[h1,h3,h10,h11];simpa using he
 . have x:qz p=[]:=(by simp[qz,h0]);rw[x];simp[h0,Leq]
theorem qhC (p:Problem)(h:VQ p)(hv20:p.vars.length<=20)(hfl:p.groups.flatten.length<4611686018427387904):Pure Tryz.prog GG 23 [.agg (qJ p)] (.sl 1 ((qz p).map qy) .none):=by
 refine Pure.vc qe Tryz.func23 rfl (by kernel_rfl) ?_;have hv:=W6 p h hfl;simp only[qJ]at hv;simp;refine qb.call hv (by simp) ?_;by_cases h0:qi p=0
 . have x:qz p=JH p.vars p.vars.length:=(by simp[qz,h0]);rw[x];simp[h0];refine qD.intro (fun q env U=>∃ i,i<=p.vars.length/\q=p.vars.length-i/\env 1=.ptr 0 0/\env 3=qb3 (JH p.vars i)/\env 4=.int .i64 i/\U=⟨[.cells (qJ p)],JJ (JH p.vars i)⟩) p.vars.length ⟨0,by simp[JH,qb3,JJ]⟩ ?_;rintro q env U ⟨i,hi,rfl,h1,h3,h4,rfl⟩;by_cases hc:i<p.vars.length
   . have hc':(i:Int)<p.vars.length:=(by omega);have hlen:=Vi (l:=p.vars) (i:=i);have hs:=YF (l:=p.vars) (i:=i);have hrr:yq p.vars (i:Int)=(p.vars[i].mode != 0):=(by simp[yq,qp8 hc]);by_cases m0:p.vars[i].mode=0
     . have hri:yq p.vars (i:Int)=false:=(by rw[hrr];simp[m0]);rw[hri]at hs;simp[h1,h3,h4,hc,m0];exact⟨_,by omega,i+1,by omega,rfl,by rw[hs];rfl,wr (by omega) (by omega),by rw[hs];rfl⟩
     . have hri:yq p.vars (i:Int)=true:=(by rw[hrr];simp[m0]);rw[hri,if_pos rfl]at hs;generalize hR:JH p.vars i=R at h3 hlen hs ⊢
       cases R with
       | nil=>
        simp only[qb3]at h3;simp[h1,h3,h4,hc,m0,JJ,qB,qk,qA,zp];exact⟨_,by omega,i+1,by omega,rfl,by rw[hs];simp[qb3],wr (by omega) (by omega),by rw[hs];simp[JJ]⟩
       | cons a r=>
        have hb:r.length<=549755813886:=(by simp at hlen;omega);simp only[qb3]at h3;simp[h1,h3,h4,hc,m0,JJ,qB,qk,qA,zp,hb];exact⟨_,by omega,i+1,by omega,rfl,by rw[hs];simp[qb3],wr (by omega) (by omega),by rw[hs];simp[JJ]⟩
   . have hi':i=p.vars.length:=(by omega);subst hi';have he:=qd7 (JH p.vars p.vars.length) [.cells (qJ p)];simp[h1,h3,h4];simpa using he
 . have x:qz p=[]:=(by simp[qz,h0]);rw[x];simp[h0,Leq]
structure VH (p:Problem):Prop where
 names:∀ v∈p.vars,Fits v.name
 exprs:∀ e∈p.hard++p.soft,Wen e
 dists:Fits p.dists
 weights:∀ d∈p.dists,Fits d.weights
 groups:Fits p.groups
 group:∀ g∈p.groups,Fits g
theorem Ya {l:List Var}{i:Nat}(h:i<l.length):zK l i=l[i].width:=by simp[zK,qp8 h]
def yB (l:List Var)(s:List Int):Int:=s.foldl (fun n i=>IntKind.i64.wrap (n+zK l i.toNat)) 0
theorem Zg {p:Problem}{i:Int}(h:i∈qz p):0<=i/\i<p.vars.length:=by
 unfold qz at h;split at h
 . cases h
 . unfold JH at h;obtain⟨j,hj,rfl⟩:=qqx.1 h;have:=qqT.1 (qsw.1 hj).1;omega
theorem Jr (p:Problem)(h:p.vars.length<=20):(qz p).length<=20:=by
 unfold qz;split
 . simp
 . exact qq9 Vi h
theorem qdC {l:List Var}{s:List Int}{i:Nat}{v:Int}(h:s[i]?=some v):yB l (s.take (i+1))=IntKind.i64.wrap (yB l (s.take i)+zK l v.toNat):=by
 unfold yB;rw[qqE,h,qrj];rfl
theorem qju (p:Problem)(h:VQ p)(hv20:p.vars.length<=20)(hfl:p.groups.flatten.length<4611686018427387904):Pure Tryz.prog GG 7 [.agg (qJ p)] (.int .i64 (yB p.vars (qz p))):=by
 refine Pure.vc qe Tryz.func7 rfl (by kernel_rfl) ?_;have hv:=qhC p h hv20 hfl;have hlen:=Jr p hv20;have hrg:∀ i∈qz p,0<=i/\i<p.vars.length:=fun i hi=>Zg hi
 simp only[qJ]at hv;generalize qz p=R at hv hlen hrg ⊢;simp;refine qb.call hv (by simp) ?_
 try simp
 refine qD.intro (fun q env U=>∃ i,i<=R.length/\q=R.length-i/\env 1=.ptr 0 0/\env 3=.sl 1 (R.map qy) .none/\env 4=.int .i64 (yB p.vars (R.take i))/\env 5=.int .i64 i/\U=⟨[.cells (qJ p)],[]⟩) R.length ⟨0,by simp[yB]⟩ ?_;rintro q env U ⟨i,hi,rfl,h1,h3,h4,h5,rfl⟩
 cases hvi:R[i]? with
 | some v=>
  obtain⟨hc,hv'⟩:=qp5.1 hvi;obtain⟨r1,r2⟩:=hrg v (qp6 hvi);obtain⟨j,rfl⟩:=qqM r1;have hj:j<p.vars.length:=by omega
  have hs:=qdC (l:=p.vars) hvi;simp only[qq7]at hs;rw[Ya hj]at hs;simp[h1,h3,h4,h5,hc,hv',hj];exact⟨_,by omega,i+1,by omega,rfl,by rw[hs],wr (by omega) (by omega)⟩
 | none=>
  have hc:¬ i<R.length:=by simp at hvi;omega
  have ht:R.take i=R:=qqg (by omega);rw[ht]at h4;simp[h1,h3,h4,h5,hc]
theorem qol (e:Ex)(hwe:Wen e)(hh:hgt e<=1000)(hsz:(pre e).length<=200000000000):Pure Tryz.prog GG 39 [.agg (qs e)] (.int .i64 (vy e)):=by
 refine Pure.k qe Tryz.func39 rfl (by kernel_rfl) ?_;simp only[qd e];simp[-getElem?_pos];rw[<- qd e];refine qc.acall (qcz e hwe hh hsz _) ?_;rintro r U ⟨b,V,A,tv,ta,rfl,hb,_,_⟩;simp[-getElem?_pos,hb]
def wC (l:List Ex):Bool:=decide (l.length<=5)&&(l.take 6).all fun e=>yd e 8&&decide (vy e<=20)
theorem qiS (l:List Ex)(hl:Fits l)(hw:∀ e∈l,Wen e):Pure Tryz.prog GG 18 [.sl 4 (l.map qs) .none] (.bool (wC l)):=by
 refine Pure.k qe Tryz.func18 rfl (by kernel_rfl) ?_;simp[-getElem?_pos];obtain⟨r,hr⟩:∃ r,r=wC l:=⟨_,rfl⟩;rw[<- hr];refine qL.list (l.take 6) (fun d env U=>env 0=.sl 4 (l.map qs) .none/\env 3=.int .i64 d.length/\U=⟨[],[]⟩/\(d.all fun e=>yd e 8&&decide (vy e<=20))=true) ?_ ?_ ?_
 . simp
 . rintro d e s env U hd he hlt ⟨e0,e3,rfl,hall⟩;have hlt':d.length<6/\d.length<l.length:=(by simp at hlt;omega);have he':l[d.length]?=some e:=(by rw[qqR]at he;split at he<;>first | exact he | cases he);have hm6:=qp6 he;have hwe:=hw e (qp6 he');have hw1:=wr (n:=(d.length:Int)+1) (by omega) (by omega);have h6:(d.length:Int)<6:=(by omega);have hbad:(yd e 8&&decide (vy e<=20))=false->r=false:=by
    intro h;rw[hr,qrg];intro h2;simp only[wC,qp9,qqi]at h2;have:=h2.2 e hm6;simp only[qtH]at h;rcases h with h|h
    . rw[h]at this;cases this.1
    . rw[h]at this;cases this.2
   simp[-getElem?_pos,e0,e3,hlt'.2,h6,he',qd e];rw[<- qd e];refine qc.call (G:=jh GG) (qkC 8 e (fun x hx=>(hwe x hx).1) (by omega)) (by simp) ?_;cases hs:yd e 8
   . have hr0:r=false:=hbad (by simp[hs]);simp[-getElem?_pos,e0,e3,unA,hr0]
   . obtain⟨q1,q2⟩:=qmW hs;simp[-getElem?_pos,e0,e3,unA,he',qd e];rw[<- qd e];refine qc.call (G:=jh GG) (qol e hwe (by omega) q2) (by simp) ?_;by_cases hz:vy e<=20
     . have hz':¬ 20<vy e:=(by omega);simp[-getElem?_pos,e0,e3,hz',hw1,hs,hz];simpa using hall
     . have hz':20<vy e:=(by omega);have hr0:r=false:=hbad (by simp[hs,hz]);simp[-getElem?_pos,e0,e3,hz',hr0]
 . rintro env U ⟨e0,e3,rfl,hall⟩;by_cases h5:l.length<=5
   . have hm:(l.take 6).length=l.length:=(by simp;omega);rw[hm]at e3;have hr1:r=true:=(by rw[hr];simp only[wC,h5,decide_true,qrm];exact hall);have h5':(l.length:Int)<=5:=(by omega);simp[-getElem?_pos,e0,e3,hr1,h5']
   . have hm:(l.take 6).length=6:=(by simp;omega);rw[hm]at e3;have hr0:r=false:=(by rw[hr];simp[wC,h5]);have h5':¬ (l.length:Int)<=5:=(by omega);have h6':(6:Int)<=l.length:=(by omega);simp[-getElem?_pos,e0,e3,hr0,h5']
noncomputable def kN (p:Problem):Bool :=
 decide (p.vars.length<=5)&&decide (p.dists.length<=5)&&decide (p.groups.length<=5)&&wC p.hard&&wC p.soft&&(p.dists.all fun d=>decide (d.weights.length<=20))&&(!decide (qi p=0)||decide (yB p.vars (qz p)<=7))
structure VM (p:Problem):Prop where
 h:VH p
 vars:Fits p.vars
 hard:Fits p.hard
 soft:Fits p.soft
 grp:∀ g∈p.groups,g.length<17592186044416
theorem VM.flat {p:Problem}(h:VM p)(hg:p.groups.length<=5):p.groups.flatten.length<4611686018427387904:=by
 have:∀ (g:List (List Int)),(∀ x∈g,x.length<17592186044416)->g.flatten.length<=g.length*17592186044416:=by
  intro g
  induction g with
  | nil=>simp
  | cons a r ih=>
   intro h;have h1:=h a (by simp);have h2:=ih fun x hx=>h x (by simp[hx])
   simp only[qqO,qqb,qqm];omega
 have:=this p.groups h.grp;omega
theorem wX {l:List Ex}(h:wC l=true):l.length<=5/\∀ e∈l,hgt e<=8/\(pre e).length<=20:=by
 simp only[wC,qp9,decide_eq_true_eq,qqi]at h;refine⟨h.1,fun e he=>?_⟩;have hm:l.take 6=l:=qqg (by omega);rw[hm]at h;obtain⟨h1,h2⟩:=h.2 e he;obtain⟨q1,q2⟩:=qmW h1;refine⟨q1,?_⟩;unfold vy at h2;rw[wr (by omega) (by omega)]at h2;omega
theorem VM.q {p:Problem}(h:VM p)(hv:p.vars.length<=5)(h1:wC p.hard=true)(h2:wC p.soft=true):VQ p:=by
 obtain⟨a1,a2⟩:=wX h1;obtain⟨b1,b2⟩:=wX h2;refine⟨by omega,h.h.names,by omega,by omega,fun e he=>?_,h.h.dists,h.h.weights,h.h.groups,h.h.group⟩;refine⟨h.h.exprs e he,?_⟩;rcases qqo.1 he with he|he
 . have:=a2 e he;omega
 . have:=b2 e he;omega
theorem qoh (p:Problem)(h:VM p):Pure Tryz.prog GG 5 [.agg (qJ p)] (.bool (kN p)):=by
 refine Pure.k qe Tryz.func5 rfl (by kernel_rfl) ?_;obtain⟨r,hr⟩:∃ r,r=kN p:=⟨_,rfl⟩;rw[<- hr];by_cases hv:p.vars.length<=5
 case neg=>
  have hv':(5:Int)<p.vars.length:=by omega
  have hr0:r=false:=by rw[hr];simp[kN,hv]
  simp[-getElem?_pos,hv',hr0]
 by_cases hd:p.dists.length<=5
 case neg=>
  have hv':¬ (5:Int)<p.vars.length:=by omega
  have hd':(5:Int)<p.dists.length:=by omega
  have hr0:r=false:=by rw[hr];simp[kN,hd]
  simp[-getElem?_pos,hv',hd',hr0]
 by_cases hg:p.groups.length<=5
 case neg=>
  have hv':¬ (5:Int)<p.vars.length:=by omega
  have hd':¬ (5:Int)<p.dists.length:=by omega
  have hg':(5:Int)<p.groups.length:=by omega
  have hr0:r=false:=by rw[hr];simp[kN,hg]
  simp[-getElem?_pos,hv',hd',hg',hr0]
 have hv':¬ (5:Int)<p.vars.length:=by omega
 have hd':¬ (5:Int)<p.dists.length:=by omega
 have hg':¬ (5:Int)<p.groups.length:=by omega
 have e1:=qiS p.hard h.hard fun e he=>h.h.exprs e (qqH _ he)
 have e2:=qiS p.soft h.soft fun e he=>h.h.exprs e (qq6 _ he)
 simp[-getElem?_pos,hv',hd',hg'];refine qc.call (G:=jh GG) e1 (by simp) ?_;cases h1:wC p.hard
 case false=>
  have hr0:r=false:=by rw[hr];simp[kN,h1]
  simp[-getElem?_pos,unA,hr0]
 simp[-getElem?_pos,unA];refine qc.call (G:=jh GG) e2 (by simp) ?_;cases h2:wC p.soft
 case false=>
  have hr0:r=false:=by rw[hr];simp[kN,h2]
  simp[-getElem?_pos,unA,hr0]
 have hq:=h.q hv h1 h2;have h28:=W6 p hq (h.flat hg);have h29:=qju p hq (by omega) (h.flat hg);simp only[qJ]at h28 h29;simp[-getElem?_pos,unA];refine qL.list p.dists (fun d env U=>env 1=.ptr 0 0/\env 3=.int .i64 d.length/\U=⟨[.cells (qJ p)],[]⟩/\(d.all fun d=>decide (d.weights.length<=20))=true) ?_ ?_ ?_
 . simp
 . rintro d x s env U hds hx hlt ⟨f1,f3,rfl,hall⟩;have hw1:=wr (n:=(d.length:Int)+1) (by omega) (by omega);by_cases hwx:x.weights.length<=20
   . have hwx':¬ (20:Int)<x.weights.length:=(by omega);simp[-getElem?_pos,f1,f3,hlt,hx,hwx',hw1,hwx];simpa using hall
   . have hwx':(20:Int)<x.weights.length:=(by omega);have hr0:r=false:=by
      rw[hr,qrg];intro ht;simp only[kN,qp9,qqi,decide_eq_true_eq]at ht;exact hwx (ht.1.2 x (qp6 hx))
     simp[-getElem?_pos,f1,f3,hlt,hx,hwx',hr0]
 . rintro env U ⟨f1,f3,rfl,hall⟩;have hrs:r=(!decide (qi p=0)||decide (yB p.vars (qz p)<=7)):=by
    rw[hr];unfold kN;rw[h1,h2,hall];simp[hv,hd,hg]
   simp[-getElem?_pos,f1,f3];refine qc.call (G:=jh GG) h28 (by simp) ?_;by_cases h0:qi p=0
   . simp[-getElem?_pos,f1,h0];refine qc.call (G:=jh GG) h29 (by simp) ?_;simp[-getElem?_pos,hrs,h0]
   . simp[-getElem?_pos,f1,h0,hrs]
end Go.Proofs.YtoibbcnfhhggnaaGreatDoor
end
