import Derived.Test.YtdapogpjhljhaaaGreatDoorCs14
import Derived.Test.YtdapogpjhljhaaaGreatDoorCs15
import Derived.Test.YtdapogpjhljhaaaGreatDoorCs11
import Derived.Test.YtdapogpjhljhaaaGreatDoorCs12
import Derived.Test.YtdapogpjhljhaaaGreatDoorCs13
set_option maxRecDepth 100000
set_option linter.all false
set_option linter.defProp false
namespace Go.Proofs.YtdapogpjhljhaaaGreatDoor
open Go Go.Abs Tryz
def qr9(σ b)(h:σ.H[b]?=some (.cells [.int .i64 0,.int .i64 0,.int .i64 0,.sl 0 [] .nil,.sl 0 [] .nil])):OS b 0 0 0 [] [] none none σ σ :=
 ⟨h,rfl,rfl,fun h=>absurd rfl h,qBs _,fun _ _ _=>rfl⟩
def qkn(e)(d:Wen e)(g:hgt e<=1000)(f:(pre e).length<=200000000000)(σ0):qh prog GG 68 [.agg (qo e)] σ0 (fun r σ=>∃b V A tv ta,r=.ptr b 0/\σ.H[b]?=some (.cells [.int .i64 (vQ e),.int .i64 (hgt e),.int .i64 (zd qy (pre e)),slS V tv,slS A ta])/\TT V tv σ.T/\V=W4 [] (pre e)):=by
 refine qh.vc func68 ?_;simp only[qd e];simp[qV,zt];rw[<- qd e];refine qFU (quL e d _ (σ0.H.length+1) 0 0 0 [] [] none none 1 0 (qr9 _ _ (by simp)) (by simp) (by omega) (by omega) (by omega)) ?_;rintro r σ ⟨V,A,tv,ta,a,_,c⟩;have hb:=a.hb;rw[show max 0 (1+(hgt e:Int)-1)=hgt e by omega]at hb;simp only[if_true,qFu]at hb
 try simp
 exact⟨V,A,tv,⟨ta,hb⟩,a.tV,c⟩
def qjl(e)(f:Wen e)(g:hgt e<=1000)(i:(pre e).length<=100000):Pure prog GG 72 [.agg (qo e)] (.int .i64 (zr e)):=by
 refine qF6 func72 ?_;simp only[qd e];simp;rw[<- qd e];refine qFU (qkn e f g (by omega) _) ?_;rintro r σ ⟨b,V,A,tv,ta,rfl,hb,_,_⟩;by_cases h0:zd qy (pre e)=0
 . rw[h0]at hb;by_cases d:24<hgt e
   . have a:(24:Int)<hgt e:=(by omega);have x:zr e=2:=(by unfold zr;rw[if_pos ⟨h0,.inl d⟩]);rw[x];simp[hb,a]
   have a:¬(24:Int)<hgt e:=(by omega);by_cases c:400<vQ e
   . have x:zr e=2:=(by unfold zr;rw[if_pos ⟨h0,.inr c⟩]);rw[x];simp[hb,a,c]
   have x:zr e=0:=(by unfold zr;rw[if_neg (fun h=>by rcases h.2 with h|h;exact d h;exact c h),h0]);rw[x];simp[hb,a,c]
 have x:zr e=zd qy (pre e):=by unfold zr;rw[if_neg (fun h=>h0 h.1)]
 rw[x];simp[hb,h0]
def qeX(l e):zz l e=if zr e=0 then VE l e else zr e:=by
 unfold zz VE;by_cases h:zr e=0
 . rw[if_neg (by simpa using h),if_pos h]
 rw[if_pos h,if_neg h]
def Jl(l)(o:Fits l)(x)(u:x.length<=1000000)(s:∀e∈x,Wen e/\hgt e<=1000/\(pre e).length<=100000):Pure prog GG 36 [.sl 4 (l.map qu) .none,.sl 4 (x.map qo) .none] (.int .i64 (zd (zz l) x)):=by
 refine qF6 func36 ?_;simp;refine qF3 (fun n env σ=>∃i,i<=x.length/\n=x.length-i/\env 0=.sl 4 (l.map qu) .none/\env 1=.sl 4 (x.map qo) .none/\env 5=.int .i64 i/\σ=⟨[],[]⟩/\∀e∈x.take i,zz l e=0) x.length ⟨0,by simp⟩ ?_;rintro n env σ ⟨i,hi,rfl,h0,h1,c,rfl,b⟩
 cases hv:x[i]? with
 | some e=>
  obtain⟨f,j⟩:=qBk.1 hv;have m:=qBl hv;obtain⟨g,t,r⟩:=s e m;have a:=qeX l e;simp[h1,c,f,j,qd e];rw[<- qd e];refine qFQ (qjl e g t r) ?_;by_cases d:zr e=0
  . rw[if_pos d]at a;simp[d,h0,h1,c,f,j,qd e];rw[<- qd e];refine qFQ (qn3 l o e g) ?_;by_cases h:VE l e=0
    . simp[h,h0,h1,c];exact⟨_,by omega,i+1,by omega,rfl,wr,zf hv b (by rwa[a])⟩
    rw[wi hv b (by rwa[a]),a];simp[h]
  rw[if_neg d]at a;rw[wi hv b (by rwa[a]),a];simp[d]
 | none=>
  have f:¬i<x.length:=by simp at hv;omega
  rw[show x.take i=x from qBr (by omega)]at b;rw[zs.2 b];simp[h1,c,f]
structure VQ(p:Problem):Prop where
 vars:p.vars.length<=1000
 names:∀v∈p.vars,Fits v.name
 hard:p.hard.length<=10000
 soft:p.soft.length<=10000
 exprs:∀e∈p.hard++p.soft,Wen e/\hgt e<=1000/\(pre e).length<=100000
 dists:Fits p.dists
 weights:∀d∈p.dists,Fits d.weights
 groups:Fits p.groups
 group:∀g∈p.groups,Fits g
structure VP(p:Problem):Prop where
 vars20:p.vars.length<=20
 names:∀v∈p.vars,Fits v.name
 hard20:p.hard.length<=20
 soft20:p.soft.length<=20
 exprs:∀e∈p.hard++p.soft,Wen e/\hgt e<=1000/\(pre e).length<=100000
 dists:Fits p.dists
 weights:∀d∈p.dists,Fits d.weights
 groups:Fits p.groups
 group:∀g∈p.groups,Fits g
 flat:p.groups.flatten.length<1000000
def VP.q{p}(h:VP p):VQ p:=⟨by have:=h.vars20;omega,h.names,by have:=h.hard20;omega,by have:=h.soft20;omega,h.exprs,h.dists,h.weights,h.groups,h.group⟩
def qpg(fs:List (FuncId×Int))(c:AV)(l:qE c=true)(m:Fits fs)(h:∀q∈fs,Pure prog GG q.1 [c] (.int .i64 q.2)):Pure prog GG 40 [.sl 1 (fs.map fun q=>[.fn q.1 [] [c]]) .none] (.int .i64 (zd (fun q=>q.2) fs)):=by
 refine qF6 func40 ?_;simp;refine qF3 (fun n env σ=>∃i,i<=fs.length/\n=fs.length-i/\env 6=.sl 1 (fs.map fun q=>[.fn q.1 [] [c]]) .none/\env 7=.int .i64 fs.length/\env 8=.int .i64 i/\σ=⟨[],[]⟩/\∀q∈fs.take i,q.2=0) fs.length ⟨0,by simp⟩ ?_;rintro n env σ ⟨i,hi,rfl,d,b,e,rfl,a⟩
 cases hv:fs[i]? with
 | some q=>
  obtain⟨f,j⟩:=qBk.1 hv;have g:=qBl hv;simp[d,b,e,f,j];refine qFQ (h q g) ?_ (by simp[l]);by_cases h0:q.2=0
  . simp[h0,d,b,e];exact⟨_,by omega,i+1,by omega,rfl,wr,by simpa using zf (p:=fun q:FuncId×Int=>q.2=0) hv a h0⟩
  rw[wi hv a h0];simp[h0]
 | none=>
  have f:¬i<fs.length:=by simp at hv;omega
  rw[show fs.take i=fs from qBr (by omega)]at a;rw[zs.2 a];simp[d,b,e,f]
def c61(p)(h:VQ p):Pure prog GG 41 [.rptr (qw p)] (.int .i64 (jd p.vars)):=by
 refine qF6 func41 ?_;simp;refine qFQ (qus p.vars (by have:=h.vars;omega) h.names) ?_;simp
def c63(p)(h:VQ p):Pure prog GG 43 [.rptr (qw p)] (.int .i64 (zd (zz p.vars) (p.hard++p.soft))):=by
 refine qF6 func43 ?_;have:=qs0 p (by have:=h.vars;omega) h.hard h.soft h.exprs;simp only[qw]at this;simp;refine qFQ this ?_;simp
def c65(p)(h:VQ p):Pure prog GG 45 [.rptr (qw p)] (.int .i64 (yH p.vars p.dists)):=by
 refine qF6 func45 ?_;have:=qs8 p h.dists h.weights;simp only[qw]at this;simp;refine qFQ this ?_;simp
def c67(p)(h:VQ p):Pure prog GG 47 [.rptr (qw p)] (.int .i64 (zK p.vars p.groups)):=by
 refine qF6 func47 ?_;have:=qoJ p h.vars h.groups h.group;simp only[qw]at this;simp;refine qFQ this ?_;simp
def qb1(p):zd (fun q:FuncId×Int=>q.2) [(41,jd p.vars),(43,zd (zz p.vars) (p.hard++p.soft)),(45,yH p.vars p.dists),(47,zK p.vars p.groups)]=qg p:=by
 simp only[zd,qg];by_cases h1:jd p.vars=0
 . by_cases h2:zd (zz p.vars) (p.hard++p.soft)=0
   . by_cases a:yH p.vars p.dists=0
     . by_cases b:zK p.vars p.groups=0<;>simp[h1,h2,a,b]
     . simp[h1,h2,a]
   . simp[h1,h2]
 simp[h1]
def yw(p)(h:VQ p):Pure prog GG 19 [.agg (qw p)] (.int .i64 (qg p)):=by
 refine qF6 func19 ?_;have b:=qpg [(41,jd p.vars),(43,zd (zz p.vars) (p.hard++p.soft)),(45,yH p.vars p.dists),(47,zK p.vars p.groups)] (.rptr (qw p)) (by simp) (by simp) (by
  intro q a;simp only[qBN,qDk,or_false]at a;rcases a with rfl|rfl|rfl|rfl
  . exact c61 p h
  . exact c63 p h
  . exact c65 p h
  exact c67 p h)
 rw[qb1]at b;simp[qe,qp];refine qb.lent b rfl ?_ ?_
 . simp[frz]
 simp
def QI(p)(h:VQ p)(i:p.groups.flatten.length<4611686018427387904):Pure prog GG 12 [.agg (qw p)] (.int .i64 (qg p)):=by
 refine qF6 func12 ?_;have f:Fits p.vars:=by have:=h.vars;omega
 simp;refine qFQ (qd0 p.vars f h.names) ?_;by_cases h1:jd p.vars=0
 . simp[h1];refine qFQ (Jl p.vars f p.hard (by have:=h.hard;omega) fun e g=>h.exprs e (qB5 _ g)) ?_;by_cases h2:zd (zz p.vars) p.hard=0
   . simp[h2];refine qFQ (Jl p.vars f p.soft (by have:=h.soft;omega) fun e g=>h.exprs e (qCu _ g)) ?_;by_cases d:zd (zz p.vars) p.soft=0
     . have a:zd (zz p.vars) (p.hard++p.soft)=0:=(by rw[yl,if_pos h2,d]);simp[d];refine qFQ (qs7 p.vars p.dists f h.dists h.weights) ?_;by_cases c:yH p.vars p.dists=0
       . simp[c];have j:p.vars.length<=20:=by
          apply Classical.byContradiction;intro l;have e:jd p.vars=2:=(by simp[jd,show 16<p.vars.length by omega]);omega
         refine qFQ (qoI p.vars p.groups j h.groups h.group i) ?_;have x:qg p=zK p.vars p.groups:=(by unfold qg;simp[h1,a,c]);rw[x];by_cases b:yn p.vars p.groups
         . rw[qaS b,show zK p.vars p.groups=0 by unfold zK;rw[if_pos b]];simp
         rw[ZA b,show zK p.vars p.groups=1 by unfold zK;rw[if_neg b]];simp
       have x:qg p=yH p.vars p.dists:=(by unfold qg;simp[h1,a,c]);rw[x];simp[c]
     have x:qg p=zd (zz p.vars) p.soft:=by
      have a:zd (zz p.vars) (p.hard++p.soft)=zd (zz p.vars) p.soft:=(by rw[yl,if_pos h2]);unfold qg;rw[a];simp[h1,d]
     rw[x];simp[d]
   have x:qg p=zd (zz p.vars) p.hard:=by
    unfold qg;rw[show zd (zz p.vars) (p.hard++p.soft)=zd (zz p.vars) p.hard by rw[yl,if_neg h2]];simp[h1,h2]
   rw[x];simp[h2]
 have x:qg p=jd p.vars:=by unfold qg;simp[h1]
 rw[x];simp[h1]
def qrb(p)(h:VP p):Pure prog GG 12 [.agg (qw p)] (.int .i64 (qg p)):=QI p h.q (by have:=h.flat;omega)
def qht{p}(h:qg p=0):p.vars.length<=16/\∀v∈p.vars,1<=v.width/\v.width<=8:=by
 have a:jd p.vars=0:=by
  unfold qg at h;split at h
  . exact absurd h (by assumption)
  rename_i h1;exact qCf.1 h1
 unfold jd at a;split at a
 . cases a
 rename_i c;split at a
 . rename_i h1;exact absurd a h1
 rename_i h1;have h1:=qCf.1 h1;refine⟨by omega,fun v b=>?_⟩;have:=zs.1 h1 v b;exact(zb this).2
structure HC(p:Problem)(c:List (List Int)):Prop where
 fits:Fits c
 each:∀l∈c,Fits l
def qui{p}(h:qg p=0):∀v∈p.vars,0<=v.width/\v.width<=28:=fun v a=>by
 have:=(qht h).2 v a;omega
noncomputable def ZP(p:Problem)(c:List (List Int)):Bool:=decide (qg p=0)&&yt p.vars c
def qjm(p c)(h:VQ p)(d:HC p c):Pure prog GG 17 [.agg (qw p),.agg (jp c)] (.bool (ZP p c)):=by
 refine qFD func17 ?_;have b:=yw p h;unfold ZP;by_cases a:qg p=0
 . have e:=qlj p c (by have:=h.vars;show p.vars.length<_;omega) d.fits d.each (qui a);rw[a]at b;simp;refine qFG (G:=qW GG) (by simpa using b) ?_;simp;refine qFG (G:=qW GG) (by simpa using e) ?_;simp[a]
 simp;refine qFG (G:=qW GG) (by simpa using b) ?_;simp[a]
noncomputable def JL(p:Problem)(c:List (List Int))(v:Int):List Int :=
 if ZP p c=true/\0<=v then
  match p.vars[v.toNat]?,c[v.toNat]? with
  |some x,some l=>if x.mode=2 then qsz x.width l else []
  |_,_=>[]
 else []
def qd7{p}{c:List (List Int)}(h:ZP p c=true):qg p=0/\c.length=p.vars.length/\∀(k:Nat) (v:Var) (l:List Int),p.vars[k]?=some v->c[k]?=some l->okV v l=true:=by
 simp only[ZP,qBq,decide_eq_true_eq]at h;have a:c.length=p.vars.length:=by
  have:=h.2;simp only[yt,qBq,decide_eq_true_eq]at this;exact this.1
 exact⟨h.1,a,(QZ a).1 h.2⟩
def qsx:Leq (.sl 0 [] .nil) (.sl 1 [] .none):=by simp[Leq]
def qvw(p c v)(h:VQ p)(m:HC p c):Pure prog GG 16 [.agg (qw p),.agg (jp c),.int .i64 v] (.sl 1 ((JL p c v).map qf) .none):=by
 refine qFD func16 ?_;have j:=qjm p c h m;simp only[qw,jp]at j;simp;refine qFG (G:=qW GG) j ?_;cases hv:ZP p c
 case false=>
  have:JL p c v=[]:=by simp[JL,hv]
  simp[this]
 obtain⟨r,z,y⟩:=qd7 hv;by_cases i:v<0
 . have:JL p c v=[]:=by simp only[JL];rw[if_neg (by omega)]
   simp[this,i]
 by_cases v1:(p.vars.length:Int)<=v
 . have o:p.vars[v.toNat]?=none:=(by rw[qEQ];omega);have:JL p c v=[]:=by simp only[JL,o];split<;>rfl
   simp[this,i,v1]
 obtain⟨n,rfl⟩:=qBG (a:=v) (by omega);obtain⟨x,b⟩:∃x,p.vars[n]?=some x:=⟨_,qBm (by omega)⟩;obtain⟨l,f⟩:∃l,c[n]?=some l:=⟨_,qBm (by omega)⟩;have g:=qui r x (qBl b);have u:=m.each l (qBl f);by_cases d:x.mode=2
 case neg=>
  have:JL p c n=[]:=by simp[JL,b,f,d]
  simp[this,i,v1,b,d]
 rw[show JL p c n=qsz x.width l by simp[JL,b,f,d,hv]];have t:=qfy x.width g.1 g.2 l u;have s:=qfy x.width g.1 g.2 [] (by simp);simp[i,v1,b,d,f];refine qFG (G:=qW GG) t ?_;unfold qsz;by_cases e:jM x.width l=[]
 . rw[if_pos e];simp[b,d,e];refine qc.less (G:=qW GG) s (by simp[qE,qr,qM]) (by simp only[zl,qBS];exact⟨qFN _,qsx,trivial⟩) ?_;simp
 have w:(0:Int)<(jM x.width l).length:=by have:=qBA.2 e;omega
 rw[if_neg e];simp[b,d,e]
