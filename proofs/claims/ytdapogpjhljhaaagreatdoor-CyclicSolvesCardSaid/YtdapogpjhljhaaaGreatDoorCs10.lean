import Derived.Test.YtdapogpjhljhaaaGreatDoorCs05
set_option maxRecDepth 100000
set_option maxHeartbeats 16000000
set_option linter.all false
set_option linter.defProp false
namespace Go.Proofs.YtdapogpjhljhaaaGreatDoor
open Go Go.Abs Tryz
section
variable (G:Nat->AV)
def qvH(v:Var)(name:Str):Pure prog G 116 [.agg (qu v),.rptr [.str name]] (.bool (v.name==name)):=by
 refine qF6 func116 ?_;simp
def index(l:List Var)(name:Str)(a:Fits l):Pure prog G 75 [.sl 4 (l.map qu) .none,.str name] (.int .i64 (zx (fun v=>v.name==name) l 0)):=by
 refine qF6 func75 ?_;simp;refine qb.lent (Ym G l (fun v=>v.name==name) 116 [] [.rptr [.str name]] a rfl rfl fun v _=>qvH G v name) rfl ?_ ?_
 . simp[frz]
 simp
def ju(p i):Pure prog G 85 [.agg (qw p),.int .i64 i] (.bool (decide (0<=i)&&(p.vars[i.toNat]?).any (fun v=>v.mode != 0))):=by
 refine qF6 func85 ?_;by_cases h0:0<=i
 . cases hv:p.vars[i.toNat]? with
   | none=>
    have h1:¬i<p.vars.length:=(by simp at hv;omega);simp[h0,h1]
   | some v=>
    obtain⟨b,a⟩:=qBk.1 hv;simp[h0,show i<p.vars.length by omega,a]
 simp[h0]
end
def Qx{α:Type}(p:α->Bool)(l:List α):decide (zx p l 0<0) = !l.any p:=by
 have h:=qbd (p:=p) (l:=l) (i:=0) (by omega);cases hb:l.any p
 . rw[hb]at h;have:¬0<=zx p l 0:=fun e=>by have:=h.1 e;cases this
   simp;omega
 rw[hb]at h;have:=h.2 rfl;simp;omega
def qdc{l name}(h:wv name=none):WX l name=false:=by simp[WX,h]
def qda{l name a}(h:jF name a 0):WX l name=false:=by simp[WX,vF h]
def qdb{l name a i}(h:jF name a (i+1)):WX l name = !wK l (zX a i):=by simp[WX,vF h]
def qvM(l:List Var)(name:Str)(s:Fits l)(m:Fits name)(o:kW name=true):Pure prog GG 78 [.sl 4 (l.map qu) .none,.str name] (.bool (WX l name)):=by
 refine qF6 func78 ?_;simp;cases hc:name.contains 91
 . refine qFQ (qe1 GG name m hc) ?_ rfl;rw[qdc (qaW hc)];simp
 refine qFQ (qlH GG name m hc) ?_ rfl;simp;have w:jc name=false:=by
  cases e:jc name
  . rfl
  exact absurd (wY e 91 (by simpa using hc)) (by simp)
 obtain⟨a,i,hi⟩:∃a i,jF name a i:=by
  simp only[kW,w,qDQ,qEd]at o;obtain⟨p,v⟩:=o;exact⟨p.1,p.2,kU.1 v⟩
 have t:=hi.has.2.1;have h:a.length<=1000:=by have:=wD hi.2.1;omega
 rw[t];refine qF3 (fun n env σ=>∃j:Nat,1<=j/\j<=8/\n=8-j/\env 0=.sl 4 (l.map qu) .none/\env 1=.str name/\env 5=.str a/\env 8=.int .i64 j/\σ=⟨[],[]⟩/\(i=0\/j<=i)) 7 ⟨1,by simp,by simp,by simp,by simp,by simp,by simp,by simp,rfl,by omega⟩ ?_;rintro n env σ ⟨j,z,A,rfl,h0,h1,b,c,rfl,y⟩;by_cases g:j<8
 . have d:(j:Int)<8:=(by omega);simp[h1,b,c,d];refine qFQ (JY a j g h) ?_ rfl;by_cases f:j=i
   . subst f;rw[<- hi.2.2];obtain⟨k,rfl⟩:∃k,j=k+1:=⟨j-1,by omega⟩;have x:IntKind.i64.wrap ((k:Int)+1-1)=k:=(by rw[wr];omega);simp[h0,h1,b,c,show IntKind.i64.wrap (k:Int)=k from wr];refine qFQ (JY a k (by omega) h) ?_ rfl;refine qFQ (index GG l (zX a k) s) ?_;rw[qdb hi];simp[Qx,wK]
   have r:¬name=zX a j:=by
    intro e;exact f (WH g hi.1 (e.symm.trans hi.2.2)).2
   simp[h0,h1,b,c,r];refine⟨_,by omega,j+1,by omega,by omega,rfl,wr,by omega⟩
 have d:¬(j:Int)<8:=by omega
 have u:i=0:=by have:=hi.1;omega
 subst u;rw[qda hi];simp[h1,b,c,d]
def qq9(l v)(b:Fits l)(a:Fits v.name)(c:kW v.name=true):Pure prog GG 77 [.agg (qu v),.rptr [.sl 4 (l.map qu) .none]] (.bool (WX l v.name)):=by
 refine qF6 func77 ?_;simp;refine qFQ (qvM l v.name b a c) ?_;simp
def qys{w:Int}(h1:1<=w)(h2:w<=8):IntKind.i64.wrap (2^(min w.toNat 64))=2^w.toNat:=by
 obtain⟨k,rfl⟩:=qBG (show 0<=w by omega);have:k=1\/k=2\/k=3\/k=4\/k=5\/k=6\/k=7\/k=8:=by omega
 rcases this with rfl|rfl|rfl|rfl|rfl|rfl|rfl|rfl<;>decide
def qd2(v)(h:Fits v.name):Pure prog GG 69 [.agg (qu v)] (.int .i64 (jS v)):=by
 refine qF6 func69 ?_;simp;refine qFQ (qof v.name h) ?_ rfl;cases hn:kW v.name
 . simp[jS,hn]
 by_cases c1:v.width<1
 . have e:jS v=1:=(by simp[jS,hn,c1]);simp[e,c1]
 by_cases c2:8<v.width
 . have e:jS v=1:=(by simp[jS,hn,c2]);simp[e,c1,c2]
 by_cases c3:v.mode<0
 . have e:jS v=1:=(by simp[jS,hn,c3]);simp[e,c1,c2,c3]
 by_cases c4:2<v.mode
 . have e:jS v=1:=(by simp[jS,hn,c4]);simp[e,c1,c2,c3,c4]
 by_cases a:v.value<0
 . have e:jS v=1:=(by simp[jS,hn,a]);simp[e,c1,c2,c3,c4,a]
 have d:¬v.width<0:=by omega
 have f:=qys (w:=v.width) (by omega) (by omega);by_cases m0:v.mode=0
 . by_cases c:(2:Int)^v.width.toNat<=v.value
   . have e:jS v=1:=(by simp[jS,hn,c]);simp[e,c1,c2,a,d,m0,f,c,IntKind.bits]
   . have e:jS v=0:=(by simp[jS,hn,c1,c2,a,c,m0]);simp[e,c1,c2,a,d,m0,f,c,IntKind.bits]
 by_cases b:v.value=0
 . have g:¬(2:Int)^v.width.toNat<=0:=by
    have:(0:Int)<2^v.width.toNat:=qE6 (by omega);omega
   have e:jS v=0:=(by simp[jS,hn,c1,c2,c3,c4,b,g]);simp[e,c1,c2,c3,c4,d,m0,f,b,g,IntKind.bits]
 have e:jS v=1:=by simp[jS,hn,m0,b]
 simp[e,c1,c2,c3,c4,a,d,m0,f,b,IntKind.bits]
def qab{l:List Var}{i}{v:Var}(h:l[i]?=some v):yK (l.take (i+1))=yK (l.take i)+(if v.mode≠0 then v.width else 0):=by
 rw[qBQ,h];have:∀(m n:List Var),yK (m++n)=yK m+yK n:=by
  intro m n
  induction m with
  |nil=>simp[yK]
  |cons a r ih=>simp only[qBV,yK,ih];omega
 rw[this];simp[yK]
def zb{v}(h:jS v=0):kW v.name=true/\1<=v.width/\v.width<=8:=by
 unfold jS at h;split at h
 . cases h
 rename_i b;split at h
 . cases h
 rename_i a;refine⟨by simpa using b,?_,?_⟩
 . apply Classical.byContradiction;intro e;exact a (.inl (by omega))
 apply Classical.byContradiction;intro e;exact a (.inr (.inl (by omega)))
def WL{l}(h:∀v∈l,1<=v.width/\v.width<=8):0<=yK l/\yK l<=8*l.length:=by
 induction l with
 |nil=>simp[yK]
 | cons a r ih=>
  have h1:=h a (by simp);have h2:=ih fun v b=>h v (by simp[b])
  simp only[yK,qBB];split<;>omega
def qeR{l:List Var}{i:Nat}{v:Var}(h:l[i]?=some v):(zx (fun x=>x.name==v.name) l 0=i)↔Qz l i=false:=by
 have gen:∀(l:List Var) (i:Nat) (k:Int),l[i]?=some v->((zx (fun x=>x.name==v.name) l k=k+i)↔(l.take i).any (fun x=>x.name==v.name)=false):=by
  intro l
  induction l with
  |nil=>intro i k h;simp at h
  | cons a r ih=>
   intro i k h
   cases i with
   | zero=>
    simp only[qE0,qBI]at h;subst h;simp[zx]
   | succ i=>
    simp only[qDP]at h;simp only[zx,qC6,qDf];by_cases b:a.name=v.name
    . simp[b];omega
    have hb:(a.name==v.name)=false:=(by simpa using b);simp only[hb,qBP,if_false,qDQ];rw[<- ih i (k+1) h];constructor<;>intro e<;>omega
 have:=gen l i 0 h;simp only[qFu]at this;rw[this];simp[Qz,h,wK]
def qly{l i}(hi:i<l.length)(h:Qz l i=true):qqy l=true:=by
 unfold qqy;exact qBM.2 ⟨i,qCe.2 hi,h⟩
def qlz{l}(h:∀i,i<l.length->Qz l i=false):qqy l=false:=by
 unfold qqy;rw[qCs];intro e;obtain⟨i,h1,h2⟩:=qBM.1 e;rw[h i (qCe.1 h1)]at h2;cases h2
def wi{α:Type}{f:α->Int}{l:List α}{i}{v:α}(h:l[i]?=some v)(b:∀a∈l.take i,f a=0)(c:f v≠0):zd f l=f v:=by
 obtain⟨e,d⟩:=qBk.1 h;have:l=l.take i++v::l.drop (i+1):=by
  conv=>lhs;rw[<- qB9 i l,zn h]
 rw[this,yl,zs.2 b];simp[zd,c]
def zf{α:Type}{p:α->Prop}{l:List α}{i:Nat}{v:α}(h:l[i]?=some v)(c:∀a∈l.take i,p a)(d:p v):∀a∈l.take (i+1),p a:=by
 intro a b;rw[qBQ,h]at b;rcases qBC.1 b with b|b
 . exact c a b
 simp at b;rwa[b]
def qus(l)(K:Fits l)(Q:∀v∈l,Fits v.name):Pure prog GG 42 [.sl 4 (l.map qu) .none] (.int .i64 (jd l)):=by
 refine qF6 func42 ?_;by_cases f:16<l.length
 . have e:jd l=2:=(by simp[jd,f]);have I:(16:Int)<l.length:=(by omega);rw[e];simp[I]
 have I:¬(16:Int)<l.length:=by omega
 simp[I];refine qF3 (fun n env σ=>∃i tail,i<=l.length/\n=l.length-i/\env 1=.ptr 0 0/\env 11=.sl 4 (l.map qu) .none/\env 12=.int .i64 l.length/\env 13=.int .i64 i/\σ=⟨.cells [.sl 4 (l.map qu) .none]::tail,[]⟩/\∀v∈l.take i,jS v=0) l.length ⟨0,[],by simp⟩ ?_;rintro n env σ ⟨i,tail,hi,rfl,h1,A,D,s,rfl,m⟩
 cases b:l[i]? with
 | some v=>
  obtain⟨c,O⟩:=qBk.1 b;have L:=qBl b;have bad:jS v≠0->jd l=jS v:=by
   intro B;have:=wi b m B;simp[jd,f,this,B]
  simp[h1,A,D,s,c,O,qB8];refine qFQ (qog v.name (Q v L)) ?_ rfl;have next:jS v=0->∀a∈l.take (i+1),jS a=0:=fun h=>zf b m h
  cases hn:kW v.name
  . have e:jS v=7:=(by simp[jS,hn]);simp[bad (by rw[e];decide),e]
  by_cases c1:v.width<1
  . have e:jS v=1:=(by simp[jS,hn,c1]);simp[c1,bad (by rw[e];decide),e]
  by_cases c2:8<v.width
  . have e:jS v=1:=(by simp[jS,hn,c2]);simp[c1,c2,bad (by rw[e];decide),e]
  by_cases c3:v.mode<0
  . have e:jS v=1:=(by simp[jS,hn,c3]);simp[c1,c2,c3,bad (by rw[e];decide),e]
  by_cases c4:2<v.mode
  . have e:jS v=1:=(by simp[jS,hn,c4]);simp[c1,c2,c3,c4,bad (by rw[e];decide),e]
  by_cases d:v.value<0
  . have e:jS v=1:=(by simp[jS,hn,d]);simp[c1,c2,c3,c4,d,bad (by rw[e];decide),e]
  have F:¬v.width<0:=by omega
  have u:=qys (w:=v.width) (by omega) (by omega);by_cases o:(2:Int)^v.width.toNat<=v.value
  . have e:jS v=1:=(by simp[jS,hn,o]);simp[c1,c2,c3,c4,d,F,u,o,IntKind.bits,bad (by rw[e];decide),e]
  by_cases m0:v.mode=0
  . have e:jS v=0:=(by simp[jS,hn,c1,c2,d,o,m0]);simp[c1,c2,d,F,u,o,IntKind.bits,m0,h1,A,D,s];exact⟨_,by omega,i+1,by omega,rfl,wr,next e⟩
  by_cases y:v.value=0
  . have T:(0:Int)<2^v.width.toNat:=qE6 (by omega);have e:jS v=0:=(by simp[jS,hn,c1,c2,c3,c4,y,T]);simp[c1,c2,c3,c4,F,u,IntKind.bits,m0,y,show ¬(2:Int)^v.width.toNat<=0 by omega,h1,A,D,s];exact⟨_,by omega,i+1,by omega,rfl,wr,next e⟩
  have e:jS v=1:=by simp[jS,hn,m0,y]
  simp[c1,c2,c3,c4,d,F,u,o,IntKind.bits,m0,y,bad (by rw[e];decide),e]
 | none=>
  have c:¬i<l.length:=by simp at b;omega
  have N:l.take i=l:=qBr (by omega);rw[N]at m;have G:=zs.2 m;simp[h1,A,D,s,c];have J:∀v∈l,kW v.name=true/\1<=v.width/\v.width<=8:=fun v b=>zb (m v b)
  refine qF3 (fun n env σ=>∃i tail,i<=l.length/\n=l.length-i/\env 1=.ptr 0 0/\env 5=.int .i64 (yK (l.take i))/\env 63=.sl 4 (l.map qu) .none/\env 64=.int .i64 l.length/\env 65=.int .i64 i/\σ=⟨.cells [.sl 4 (l.map qu) .none]::tail,[]⟩/\∀j,j<i->Qz l j=false) l.length ⟨0,tail,by simp[h1,yK]⟩ ?_;rintro n env σ ⟨i,tail,hi,rfl,h1,g,C,z,E,rfl,hd⟩
  cases b:l[i]? with
  | some v=>
   obtain⟨c,O⟩:=qBk.1 b;have L:=qBl b;have R:=qeR b;have hb:=WL (l:=l.take i) fun v b=>(J v (qB6 b)).2
   have U:(l.take i).length<=16:=(by simp;omega);have next:Qz l i=false->∀j,j<i+1->Qz l j=false:=fun h j t=>by
    rcases qCB.1 t with t|rfl
    . exact hd j t
    exact h
   simp[h1,C,z,E,c,O,qB8];refine qFQ (index GG l v.name K) ?_;cases r:Qz l i
   . rw[R.2 r];have P:=qab b;by_cases m0:v.mode=0
     . simp[m0,h1,g,C,z,E];refine⟨_,by omega,i+1,by omega,rfl,?_,wr,next r⟩;rw[P];simp[m0]
     have V:=J v L;have S:IntKind.i64.wrap (yK (l.take i)+v.width)=yK (l.take (i+1)):=by
      rw[P,if_pos m0];exact wr
     simp[m0,h1,g,C,z,E,S];refine⟨_,by omega,i+1,by omega,rfl,rfl,wr,next r⟩
   have B:¬zx (fun x=>x.name==v.name) l 0=i:=by
    intro e;have:=R.1 e;rw[r]at this;cases this
   have e:jd l=8:=(by simp[jd,f,G,qly c r]);rw[e];simp[B]
  | none=>
   have c:¬i<l.length:=(by simp at b;omega);have N:l.take i=l:=qBr (by omega);rw[N]at g;have M:=qlz (l:=l) fun j t=>hd j (by omega)
   simp[h1,C,z,E,c];refine qb.lent (QA GG l (fun v=>WX l v.name) 77 [] [.rptr [.sl 4 (l.map qu) .none]] K rfl (by simp) fun v b=>qq9 l v K (Q v b) (J v b).1) rfl ?_ ?_
   . simp[frz]
   cases hg:l.any fun v=>WX l v.name
   . by_cases hb:20<yK l
     . have e:jd l=2:=(by simp[jd,f,G,M,hg,hb]);rw[e];simp[hb,g]
     . have e:jd l=0:=(by simp only[jd,f,G,M,hg,hb];rfl);rw[e];simp[hb,g]
   have e:jd l=10:=(by simp only[jd,f,G,M,hg];rfl);rw[e];simp
def qvL(l)(r:Fits l)(Q:∀v∈l,Fits v.name)(R:∀v∈l,kW v.name=true):Pure prog GG 71 [.sl 4 (l.map qu) .none] (.bool (l.any fun v=>WX l v.name)):=by
 refine qF6 func71 ?_;simp;refine qF3 (fun n env σ=>∃i,i<=l.length/\n=l.length-i/\env 0=.sl 4 (l.map qu) .none/\env 3=.int .i64 i/\σ=⟨[],[]⟩/\∀v∈l.take i,WX l v.name=false) l.length ⟨0,by simp⟩ ?_;rintro n env σ ⟨i,hi,rfl,h0,c,rfl,x⟩
 cases hv1:l[i]? with
 | none=>
  have g:¬i<l.length:=by simp at hv1;omega
  rw[show l.take i=l from qBr (by omega)]at x;have e:(l.any fun v=>WX l v.name)=false:=by
   rw[qCs];intro e;obtain⟨v,h1,h2⟩:=qBM.1 e;rw[x v h1]at h2;cases h2
  rw[e];simp only[qCM]at e;simp[h0,c,g]
  try exact x
 | some v=>
  obtain⟨g,u⟩:=qBk.1 hv1;have z:=qBl hv1;have W:=Q v z;simp[h0,c,g]
  -- the places of a bracket
  refine qF3 (fun n env σ=>∃k:Nat,1<=k/\k<=v.name.length+1/\n=v.name.length+1-k/\env 0=.sl 4 (l.map qu) .none/\env 3=.int .i64 i/\env 4=.int .i64 k/\σ=⟨[],[]⟩/\(∀a j,jF v.name a j->a.length<k->WX l v.name=false)) v.name.length ⟨1,by simp,by simp,by simp,by simp[h0],by simp[c],by simp,rfl,fun a j b h=>by have:=qBA.2 (qa1 b.2.1);omega⟩ ?_;clear h0 c;rintro n env σ ⟨k,Z,V,rfl,h0,c,f,rfl,D⟩;by_cases w:k<v.name.length
  . have L:(k:Int)<v.name.length:=(by omega);have X:(k:Int)<=v.name.length:=(by omega);have F:k<=v.name.length:=(by omega);have step:(∀a j,jF v.name a j->a.length=k->WX l v.name=false)->∀a j,jF v.name a j->a.length<k+1->WX l v.name=false:=fun h a j b r=>by
     rcases qCB.1 r with h1|h1
     . exact D a j b h1
     exact h a j b h1
    have C:∀a j,jF v.name a j->a.length=k->v.name[k]=91/\v.name.take k=a:=fun a j b r=>by
     have e:=b.2.2;subst r;constructor
     . simp[e,zX]
     conv=>lhs;rw[e]
     simp[zX]
    have G:IntKind.i64.wrap ((k:Int)+1)=((k+1:Nat):Int):=(by rw[wr];omega);by_cases hb:v.name[k]=91
    . -- a bracket: every name that holds one is an element's
      have M:jc v.name=false:=by
       cases e:jc v.name
       . rfl
       exact absurd (wY e 91 (by rw[<- hb];exact qDL w)) (by simp)
      obtain⟨a,j,b⟩:∃a j,jF v.name a j:=by
       have:=R v z;simp only[kW,M,qDQ,qEd]at this;obtain⟨p,O⟩:=this;exact⟨p.1,p.2,kU.1 O⟩
      have P:a.length=k:=by
       have e:=b.2.2;apply Classical.byContradiction;intro y;rcases Nat.lt_or_gt_of_ne y with h|h
       . have U:v.name.length=a.length+3:=(by rw[e];simp);have T:=b.1;have d:v.name[k]=[91,UInt8.ofNat (48+j),93][k-a.length]'(by simp;omega):=by
          simp only[e,zX];rw[List.getElem_append_right (by omega)]
         rw[hb]at d;have:k-a.length=1\/k-a.length=2:=by omega
         rcases this with h1|h1
         . simp only[h1,qFf,qFg]at d;have:=congrArg UInt8.toNat d;simp at this;omega
         simp only[h1,qFf,qFg]at d;cases d
       have d:v.name[k]=a[k]'h:=by
        simp only[e,zX];rw[List.getElem_append_left h]
       exact wY b.2.1 _ (qDL h) (d.symm.trans hb)
      have K:=(C a j b P).2;have E:a.length<=1000:=(by have:=wD b.2.1;omega);simp[h0,c,f,g,u,w,hb];refine qF3 (fun n env σ=>∃m:Nat,1<=m/\m<=8/\n=8-m/\env 0=.sl 4 (l.map qu) .none/\env 3=.int .i64 i/\env 4=.int .i64 k/\env 5=.int .i64 m/\σ=⟨[],[]⟩/\(1<=j->j<m->WX l v.name=false)) 7 ⟨1,by simp,by simp,by simp,by simp[h0],by simp[c],by simp[f],by simp,rfl,by omega⟩ ?_;rintro n env σ ⟨m,Y,S,rfl,h0,c,f,t,rfl,J⟩;by_cases I:m<8
      . have B:(m:Int)<8:=(by omega);simp[h0,c,f,t,B,g,u,zm,zM,F,K];refine qFQ (JX a m I E) ?_ rfl;by_cases s:m=j
        . subst s;rw[<- b.2.2];obtain⟨q,rfl⟩:∃q,m=q+1:=⟨m-1,by omega⟩;simp[h0,c,f,t,g,u,zm,zM,F,K,show IntKind.i64.wrap (q:Int)=q from wr];refine qFQ (JX a q (by omega) E) ?_ rfl;refine qFQ (qeT GG l (zX a q) r) ?_;have o:=qdb (l:=l) b;cases hh:wK l (zX a q)
          . rw[hh]at o;have A:zx (fun v=>v.name==zX a q) l 0<0:=by
             have:=Qx (fun v:Var=>v.name==zX a q) l;simp only[wK]at hh;rw[hh]at this;simpa using this
            rw[(fun h=>qBM.2 ⟨v,z,h⟩) o];simp[A]
          rw[hh]at o;have A:¬zx (fun v=>v.name==zX a q) l 0<0:=by
           have:=Qx (fun v:Var=>v.name==zX a q) l;simp only[wK]at hh;rw[hh]at this;simpa using this
          simp[A,h0,c,f,t];exact⟨_,by omega,q+2,by omega,by omega,rfl,by rw[wr];omega,fun _=>by simpa using o⟩
        have y:¬v.name=zX a m:=by
         intro e;exact s (WH I b.1 (e.symm.trans b.2.2)).2
        simp[h0,c,f,t,y,show IntKind.i64.wrap ((m:Int)+1)=((m+1:Nat):Int) by rw[wr];omega];exact⟨_,by omega,m+1,by omega,by omega,rfl,rfl,fun h1 h2=>J h1 (by omega)⟩
      have B:¬(m:Int)<8:=(by omega);have o:WX l v.name=false:=by
       rcases qCI j with h|h
       . subst h;exact qda b
       exact J h (by have:=b.1;omega)
      simp[h0,c,f,t,B,G];exact⟨_,by omega,k+1,by omega,by omega,rfl,rfl,step fun _ _ _ _=>o⟩
    have N:¬(v.name[k].toNat:Int)=91:=by
     intro e;exact hb (UInt8.toNat_inj.1 (by simp;omega))
    simp[h0,c,f,g,u,w,N,G];exact⟨_,by omega,k+1,by omega,by omega,rfl,rfl,step fun a j b r=>absurd (C a j b r).1 hb⟩
  have L:¬(k:Int)<v.name.length:=by omega
  have o:WX l v.name=false:=by
   cases s:wv v.name with
   |none=>exact qdc s
   | some p=>
    have b:=kU.1 (show wv v.name=some (p.1,p.2) from s);refine D p.1 p.2 b ?_;have:v.name.length=p.1.length+3:=by rw[b.2.2];simp
    omega
  simp[h0,c,f,g,u,w,show IntKind.i64.wrap ((i:Int)+1)=((i+1:Nat):Int) by rw[wr];omega];exact⟨_,by omega,i+1,by omega,rfl,rfl,(fun h=>zf hv1 x h) o⟩
def qd0(l)(D:Fits l)(B:∀v∈l,Fits v.name):Pure prog GG 35 [.sl 4 (l.map qu) .none] (.int .i64 (jd l)):=by
 refine qF6 func35 ?_;by_cases g:16<l.length
 . have e:jd l=2:=(by simp[jd,g]);have y:(16:Int)<l.length:=(by omega);rw[e];simp[y]
 have y:¬(16:Int)<l.length:=by omega
 simp[y];refine qF3 (fun n env σ=>∃i,i<=l.length/\n=l.length-i/\env 0=.sl 4 (l.map qu) .none/\env 3=.int .i64 (yK (l.take i))/\env 4=.int .i64 i/\σ=⟨[],[]⟩/\∀v∈l.take i,jS v=0) l.length ⟨0,by simp[yK]⟩ ?_;rintro n env σ ⟨i,hi,rfl,h0,d,s,rfl,f⟩
 cases a:l[i]? with
 | some v=>
  obtain⟨b,o⟩:=qBk.1 a;have E:=qBl a;have C:∀v∈l.take i,1<=v.width/\v.width<=8:=fun v a=>(zb (f v a)).2
  have hb:=WL C;have I:(l.take i).length<=16:=by simp;omega
  have A:=qab a;simp[h0,s,b,o];refine qFQ (qd2 v (B v E)) ?_ rfl;by_cases c:jS v=0
  . have J:=(zb c).2;by_cases m0:v.mode=0
    . simp[c,m0,h0,d,s,b,o];refine⟨_,by omega,i+1,by omega,rfl,?_,wr,zf a f c⟩;rw[A];simp[m0]
    have G:IntKind.i64.wrap (yK (l.take i)+v.width)=yK (l.take (i+1)):=by
     rw[A,if_pos m0];exact wr
    simp[c,m0,h0,d,s,b,o,G];exact⟨_,by omega,i+1,by omega,rfl,rfl,wr,zf a f c⟩
  have e:jd l=jS v:=by
   have:=wi a f c;simp[jd,g,this,c]
  rw[e];simp[c]
 | none=>
  have b:¬i<l.length:=by simp at a;omega
  rw[show l.take i=l from qBr (by omega)]at f d;have u:=zs.2 f;simp[h0,s,b];refine qF3 (fun n env σ=>∃i,i<=l.length/\n=l.length-i/\env 0=.sl 4 (l.map qu) .none/\env 3=.int .i64 (yK l)/\env 6=.int .i64 i/\σ=⟨[],[]⟩/\∀j,j<i->Qz l j=false) l.length ⟨0,by simp[h0,d]⟩ ?_;rintro n env σ ⟨i,hi,rfl,h0,d,w,rfl,hd⟩
  cases a:l[i]? with
  | some v=>
   obtain⟨b,o⟩:=qBk.1 a;have next:Qz l i=false->∀j,j<i+1->Qz l j=false:=fun h j r=>by
    rcases qCB.1 r with r|rfl
    . exact hd j r
    exact h
   simp[h0,w,b,o,zm,zM,yp,zH,show(i:Int)<=l.length by omega];rw[<- List.map_take];refine qFR (qeT GG (l.take i) v.name (by simp;omega)) ?_ ?_ ?_
   . simp only[qr,qE,qyK,qCR]
   . simp only[zl,qFN,and_true]
     try exact Leq.sl (by rw[List.map_take])
   have m:=qlp (fun x:Var=>x.name==v.name) (l.take i);rw[<- show Qz l i=(l.take i).any (fun x=>x.name==v.name) by simp[Qz,a,wK]]at m;cases t:Qz l i
   . rw[t]at m;have F:=of_decide_eq_false m;simp[F,h0,d,w];exact⟨_,by omega,i+1,by omega,rfl,wr,next t⟩
   rw[t]at m;have e:jd l=8:=(by simp[jd,g,u,qly b t]);rw[e];simp[of_decide_eq_true m]
  | none=>
   have b:¬i<l.length:=(by simp at a;omega);have z:=qlz (l:=l) fun j r=>hd j (by omega)
   simp[h0,w,b];refine qFQ (qvL l D B fun v a=>((fun v a=>zb (f v a)) v a).1) ?_;cases hg:l.any fun v=>WX l v.name
   . by_cases hb:20<yK l
     . have e:jd l=2:=(by simp only[jd,g,u,z,hg,hb];rfl);rw[e];simp[hb,d]
     . have e:jd l=0:=(by simp only[jd,g,u,z,hg,hb];rfl);rw[e];simp[hb,d]
   have e:jd l=10:=(by simp only[jd,g,u,z,hg];rfl);rw[e];simp
def qi7(w):Pure prog GG 127 [.agg (qC w)] (.bool (z4 w)):=by
 refine qF6 func127 ?_;by_cases c1:w.lo<0
 . have x:z4 w=true:=(by simp[z4,c1]);rw[x];simp[c1]
 by_cases c2:w.hi<w.lo
 . have x:z4 w=true:=(by simp[z4,c2]);rw[x];simp[c1,c2]
 by_cases c3:65535<w.hi
 . have x:z4 w=true:=(by simp[z4,c3]);rw[x];simp[c1,c2,c3]
 by_cases c4:w.weight<0
 . have x:z4 w=true:=(by simp[z4,c4]);rw[x];simp[c1,c2,c3,c4]
 have x:z4 w=decide (1000<w.weight):=by simp[z4,c1,c2,c3,c4]
 rw[x];simp[c1,c2,c3,c4]
def qhi(l)(a:Fits l):Pure prog GG 88 [.sl 4 (l.map qC) .none] (.bool (!l.any z4)):=by
 refine qF6 func88 ?_;simp;refine qFQ (Jr GG l z4 127 [] [] a rfl rfl fun v _=>qi7 v) ?_;simp
def qrD(x d):Pure prog GG 87 [.agg (zu x),.rptr (zu d)] (.bool (x.var==d.var)):=by
 refine qF6 func87 ?_;simp
def qqo{f n i}(hi:i<n)(c:∀j,j<i->f j=0)(d:f i≠0):zd f (List.range n)=f i :=
 wi (l:=List.range n) (i:=i) (v:=i) (by simp[hi]) (fun a b=>by
  rw[List.take_range]at b;have:=qCe.1 b;exact c a (by omega)) d
def qlm{f n}(b:∀j,j<n->f j=0):zd f (List.range n)=0:=zs.2 fun a c=>b a (qCe.1 c)
def qaG(l i):(decide (0<=i)&&(l[i.toNat]?).any (fun v=>v.mode != 0))=yU l i:=rfl
def qs8(p)(hd:Fits p.dists)(s:∀d∈p.dists,Fits d.weights):Pure prog GG 46 [.agg (qw p)] (.int .i64 (yH p.vars p.dists)):=by
 refine qF6 func46 ?_;simp;refine qF3 (fun n env σ=>∃i tail,i<=p.dists.length/\n=p.dists.length-i/\env 1=.ptr 0 0/\env 6=.sl 2 (p.dists.map zu) .none/\env 7=.int .i64 p.dists.length/\env 8=.int .i64 i/\σ=⟨.cells (qw p)::tail,[]⟩/\∀j,j<i->jR p.vars p.dists j=0) p.dists.length ⟨0,[],by simp⟩ ?_;rintro n env σ ⟨i,tail,hi,rfl,h1,f,e,m,rfl,g⟩
 cases hv:p.dists[i]? with
 | some d=>
  obtain⟨b,w⟩:=qBk.1 hv;have t:=qBl hv;have bad:jR p.vars p.dists i≠0->yH p.vars p.dists=jR p.vars p.dists i:=fun h=>qqo b g h
  have next:jR p.vars p.dists i=0->∀j,j<i+1->jR p.vars p.dists j=0:=fun h j a=>by
   rcases qCB.1 a with a|rfl
   . exact g j a
   exact h
  have r:i<=p.dists.length:=by omega
  have z:(i:Int)<=p.dists.length:=by omega
  have c:=ju GG p d.var;rw[qaG]at c;simp only[qw]at c;simp[h1,f,e,m,b,w,qB8];refine qFQ c ?_;cases hrn:yU p.vars d.var
  . have x:jR p.vars p.dists i=1:=(by simp[jR,hv,hrn]);rw[bad (by rw[x];decide),x];simp
  simp[h1,zm,zM,yp,zH,r,qB8];have v:=YJ GG (p.dists.take i) (fun y=>y.var==d.var) 87 [] [.rptr (zu d)] (by simp;omega) rfl (by simp) fun y _=>qrD y d
  refine qb.lent v rfl ?_ ?_
  . have u:(p.dists.map zu).take i=(p.dists.take i).map zu:=List.map_take.symm;simp[frz,-List.map_take,u]
  cases hdp:(p.dists.take i).any fun y=>y.var==d.var
  . by_cases o:16<d.weights.length
    . have l:(16:Int)<d.weights.length:=(by omega);have x:jR p.vars p.dists i=2:=(by simp only[jR,hv,hrn,hdp,o];rfl);rw[bad (by rw[x];decide),x];simp[l]
    . have l:¬(16:Int)<d.weights.length:=(by omega);simp[l];refine qFQ (qhi d.weights (s d t)) ?_;cases hwt:d.weights.any z4
      . have x:jR p.vars p.dists i=0:=(by simp only[jR,hv,hrn,hdp,o,hwt];rfl);simp[h1,f,e,m];exact⟨_,by omega,i+1,by omega,rfl,wr,next x⟩
      have x:jR p.vars p.dists i=1:=(by simp only[jR,hv,hrn,hdp,o,hwt];rfl);rw[bad (by rw[x];decide),x];simp
  have x:jR p.vars p.dists i=8:=by simp only[jR,hv,hrn,hdp];rfl
  rw[bad (by rw[x];decide),x];simp
 | none=>
  have b:¬i<p.dists.length:=by simp at hv;omega
  have x:yH p.vars p.dists=0:=qlm fun j a=>g j (by omega)
  rw[x];simp[f,e,m,b]
def YA(n:Nat)(d:List Int):List AV:=(List.range n).map fun(j:Nat)=>AV.bool (decide ((j:Int)∈d))
@[simp]def qpU{n d}:(YA n d).length=n:=by simp[YA]
def qjR{n}:(List.replicate n [AV.bool false]).flatten=YA n []:=by
 simp only[YA,qDk,decide_false]
 induction n with
 |zero=>simp
 |succ n ih=>rw[qCL,qCl,<- ih,qD2];simp
def ZZ{n j d}(h:j<n):(YA n d)[j]?=some (.bool (decide ((j:Int)∈d))):=by simp[YA,h]
def qjQ{n j d}(h:j<n):(YA n d).set j (.bool true)=YA n (d++[(j:Int)]):=by
 apply qCg;intro i;by_cases hi:i<n
 . rw[qDY,ZZ hi,ZZ hi];by_cases a:j=i
   . subst a;simp[h]
   rw[if_neg a];have:¬(i:Int)=j:=by omega
   simp[this]
 rw[qBW (by simp;omega),qBW (by simp;omega)]
def V2{g:List (List Int)}{i k}{x:List Int}{v}(a:g[i]?=some x)(b:x[k]?=some v):
 g.flatten=((g.take i).flatten++x.take k)++v::(x.drop (k+1)++(g.drop (i+1)).flatten):=by
 conv=>lhs;rw[show g=g.take i++x::g.drop (i+1) by conv=>lhs;rw[<- qB9 i g,zn a]]
 rw[qDi,qB7]
 conv=>lhs;rw[show x=x.take k++v::x.drop (k+1) by conv=>lhs;rw[<- qB9 k x,zn b]]
 simp
def qdk{g:List (List Int)}{i x}(a:g[i]?=some x):(g.take (i+1)).flatten=(g.take i).flatten++x:=by
 rw[qBQ,a];simp
def qk9(p)(e:p.vars=[])(s:Fits p.groups):Pure prog GG 48 [.agg (qw p)] (.int .i64 (zK p.vars p.groups)):=by
 refine qF6 func48 ?_;have d:∀i,yU p.vars i=false:=fun i=>by simp[yU,e]
 have h:p.vars.length=0:=by rw[e];rfl
 simp[qz,h];refine qF3 (fun n env σ=>n=1/\env 1=.ptr 0 0/\env 14=.sl 1 (p.groups.map qn) .none/\env 15=.int .i64 p.groups.length/\env 16=.int .i64 0/\σ=⟨[.cells (qw p)],[some 0]⟩) 1 ⟨rfl,by simp⟩ ?_;rintro n env σ ⟨rfl,h1,c,b,f,rfl⟩
 cases hgs:p.groups with
 | nil=>
  have x:zK p.vars []=0:=by
   unfold zK;rw[if_pos ⟨by simp,by simp,by simp,fun i hi=>by omega⟩]
  rw[hgs]at b;rw[x];simp[*];refine qF3 (fun n env σ=>n=1/\env 46=.int .i64 0/\env 47=.int .i64 0) 1 ⟨rfl,by simp⟩ ?_;rintro n env σ ⟨rfl,o,t⟩;simp[*]
 | cons g r=>
  rw[hgs]at c b
  cases g with
  | nil=>
   have x:zK p.vars ([]::r)=1:=by
    unfold zK;rw[if_neg (wF (by simp))]
   rw[x];have u:(0:Int)<r.length+1:=(by omega);simp[*]
  | cons v g=>
   have x:zK p.vars ((v::g)::r)=1:=by
    unfold zK;rw[if_neg (V0 (i:=v) (by simp) (d v))]
   rw[x];simp[h1,c,b,f,show(0:Int)<r.length+1 by omega,show ¬(g.length:Int)+1=0 by omega];refine qF3 (fun n env σ=>n=1/\env 1=.ptr 0 0/\env 23=.sl 1 ((v::g).map qf) .none/\env 24=.int .i64 (g.length+1)/\env 25=.int .i64 0/\σ=⟨[.cells (qw p)],[some 0]⟩) 1 ⟨rfl,by simp[h1]⟩ ?_;rintro n env σ ⟨rfl,h1,l,m,j,rfl⟩;have a:=ju GG p v;rw[qaG,d]at a;simp at a;simp[h1,l,m,j,show(0:Int)<g.length+1 by omega];refine qFQ a ?_;simp
def qhK{n}:List.replicate n (AV.bool false)=YA n []:=by
 rw[<- qjR]
 induction n with
 |zero=>rfl
 |succ n ih=>rw[qCK,qCK,qB7,<- ih];rfl
def GI(l:List Var)(d:List Int):Prop:=(∀v∈d,yU l v=true)/\d.Nodup
def GI.add{l d v}(h:GI l d)(i:yU l v=true)(g:v∉d):GI l (d++[v]):=by
 refine⟨fun x c=>?_,?_⟩
 . rcases qBC.1 c with c|c
   . exact h.1 x c
   . rwa[qB0.1 c]
 rw[qCX];refine⟨h.2,by simp,fun a f b hb e=>?_⟩;rw[qB0.1 hb]at e;exact g (e▸f)
def NE(g:List (List Int)):Prop:=∀x∈g,x≠[]
def kL{c:List AV}{j v}(h:c[j]?=some v):(c.drop j).take 1=[v]:=by
 rw[zn h];rfl
def qk8(p)(Z:p.vars≠[])(a1:p.vars.length<=1000)(hg:Fits p.groups)(W:∀g∈p.groups,Fits g):Pure prog GG 48 [.agg (qw p)] (.int .i64 (zK p.vars p.groups)):=by
 refine qF6 func48 ?_;have a2:=qBA.2 Z;obtain⟨N,S⟩:∃N,N=p.vars.length:=⟨_,rfl⟩;have a3:¬(N:Int)=0:=by omega
 have P:∀i,Pure prog GG 85 [.agg [.sl 4 (p.vars.map qu) .none,.sl 4 (p.hard.map qo) .none,.sl 4 (p.soft.map qo) .none,.sl 2 (p.dists.map zu) .none,.sl 1 (p.groups.map qn) .none],.int .i64 i] (.bool (yU p.vars i)):=fun i=>by
  have o:=ju GG p i;rw[qaG]at o;simpa only[qw] using o
 have bad:¬yn p.vars p.groups->zK p.vars p.groups=1:=fun h=>by unfold zK;rw[if_neg h]
 simp[qz,<- S,show(N:Int)<=549755813888 by omega,show ¬N=0 by omega,qhK];refine qF3 (fun n env σ=>∃i,i<=p.groups.length/\n=p.groups.length-i/\env 1=.ptr 0 0/\env 3=.ms 1 0 N 1/\env 14=.sl 1 (p.groups.map qn) .none/\env 15=.int .i64 p.groups.length/\env 16=.int .i64 i/\σ=⟨[.cells (qw p),.cells (YA N (p.groups.take i).flatten)],[]⟩/\NE (p.groups.take i)/\GI p.vars (p.groups.take i).flatten) p.groups.length ⟨0,by simp,by simp,by simp,by simp,by simp,by simp,by simp,by simp,by simp[NE],by simp[GI]⟩ ?_;rintro n env σ ⟨i,hi,rfl,h1,b,c,e,f,rfl,K,F⟩
 cases hgi:p.groups[i]? with
 | some g=>
  obtain⟨E,R⟩:=qBk.1 hgi;have O:=qBl hgi;have a5:=W g O;by_cases C:g=[]
  . rw[bad (wF (C▸O))];subst C;simp[h1,c,e,f,E,R]
  have a4:¬(g.length:Int)=0:=by have:=qBA.2 C;omega
  simp[h1,c,e,f,E,R,show ¬g.length=0 by have:=qBA.2 C;omega];refine qF3 (fun n env σ=>∃k,k<=g.length/\n=g.length-k/\env 1=.ptr 0 0/\env 3=.ms 1 0 N 1/\env 14=.sl 1 (p.groups.map qn) .none/\env 15=.int .i64 p.groups.length/\env 16=.int .i64 i/\env 23=.sl 1 (g.map qf) .none/\env 24=.int .i64 g.length/\env 25=.int .i64 k/\σ=⟨[.cells (qw p),.cells (YA N ((p.groups.take i).flatten++g.take k))],[]⟩/\GI p.vars ((p.groups.take i).flatten++g.take k)) g.length ⟨0,by simp[h1,b,c,e,f];exact F⟩ ?_;clear h1 b c e f;rintro n env σ ⟨k,hk,rfl,h1,b,c,e,f,G,B,D,rfl,M⟩
  cases hvk:g[k]? with
  | some v=>
   obtain⟨L,V⟩:=qBk.1 hvk;have T:=V2 hgi hvk;simp[h1,b,c,e,f,G,B,D,L,V];refine qFQ (P v) ?_;cases o:yU p.vars v
   . rw[bad (V0 (by rw[T];simp) o)];simp
   obtain⟨Y,r2⟩:=JG o;obtain⟨j,rfl⟩:=qBG Y;have a:j<N:=(by omega);have J:(j:Int)<N:=(by omega);have l:=ZZ (d:=(p.groups.take i).flatten++g.take k) a;have X:=qjQ (d:=(p.groups.take i).flatten++g.take k) a;have Q:g.take (k+1)=g.take k++[(j:Int)]:=(by rw[qBQ,hvk];rfl);have y:j+1<=N:=a;by_cases m:(j:Int)∈(p.groups.take i).flatten++g.take k
   . rw[bad (qig T m)];rw[decide_eq_true m]at l;have u:=kL l;simp[h1,b,c,e,f,G,B,D,a,J,y,u]
   rw[decide_eq_false m]at l;have u:=kL l;simp[h1,b,c,e,f,G,B,D,a,J,y,u,X];refine⟨_,by omega,k+1,by omega,rfl,wr,?_,?_⟩
   . rw[Q]
   rw[Q,<- qBX];exact M.add o m
  | none=>
   have L:¬k<g.length:=(by simp at hvk;omega);have A:g.take k=g:=qBr (by omega);rw[A]at M;have U:=qdk hgi;simp[h1,b,c,e,f,G,B,D,L,show IntKind.i64.wrap ((i:Int)+1)=((i+1:Nat):Int) by rw[wr];omega];refine⟨_,by omega,i+1,by omega,rfl,rfl,?_,?_,?_⟩
   . rw[U,A]
   . intro x s;rw[qBQ,hgi]at s;rcases qBC.1 s with s|s
     . exact K x s
     simp at s;rwa[s]
   rwa[U]
 | none=>
  have E:¬i<p.groups.length:=by simp at hgi;omega
  have A:p.groups.take i=p.groups:=qBr (by omega);rw[A]at K F;simp[h1,c,e,f,E];refine qF3 (fun n env σ=>∃i,i<=N/\n=N-i/\env 1=.ptr 0 0/\env 3=.ms 1 0 N 1/\env 46=.int .i64 N/\env 47=.int .i64 i/\σ=⟨[.cells (qw p),.cells (YA N p.groups.flatten)],[]⟩/\∀j:Nat,j<i->yU p.vars j=true->(j:Int)∈p.groups.flatten) N ⟨0,by simp[h1,b,<- S,A]⟩ ?_;rintro n env σ ⟨j,a0,rfl,h1,b,z,w,rfl,I⟩;by_cases a:j<N
  . have J:(j:Int)<N:=(by omega);have y:j+1<=N:=a;have l:=ZZ (d:=p.groups.flatten) a;simp[h1,z,w,a];refine qFQ (P j) ?_;cases o:yU p.vars j
    . simp[h1,b,z,w];refine⟨_,by omega,j+1,by omega,rfl,wr,?_⟩;intro q r t;rcases qCB.1 r with r|rfl
      . have:=I q r t;simpa using this
      rw[o]at t;cases t
    by_cases m:(j:Int)∈p.groups.flatten
    . rw[decide_eq_true m]at l;have u:=kL l;simp[h1,b,z,w,a,y,u];refine⟨_,by omega,j+1,by omega,rfl,wr,?_⟩;intro q r t;rcases qCB.1 r with r|rfl
      . have:=I q r t;simpa using this
      simpa using m
    rw[bad (qeO (by omega) o m)];rw[decide_eq_false m]at l;have u:=kL l;simp[h1,b,z,w,a,y,u]
  have x:zK p.vars p.groups=0:=by
   unfold zK;rw[if_pos ⟨K,F.1,F.2,fun q r t=>I q (by omega) t⟩]
  rw[x];simp[h1,z,w,a]
def qoJ(p)(d:p.vars.length<=1000)(a:Fits p.groups)(c:∀g∈p.groups,Fits g):Pure prog GG 48 [.agg (qw p)] (.int .i64 (zK p.vars p.groups)):=by
 by_cases b:p.vars=[]
 . exact qk9 p b a
 exact qk8 p b d a c
