import Derived.Test.YtdapogpjhljhaaaGreatDoorCs21
import Derived.SizedLaws
import Derived.Test.YtdapogpjhljhaaaGreatDoorRows
import Derived.Test.YtdapogpjhljhaaaGreatDoorTie
import Derived.Test.YtdapogpjhljhaaaGreatDoorCards
import Derived.ProofKit
import Derived.LaidMore
import Derived.OpenShut
import Derived.Stop.Joined
import Derived.SevenTiedAt
import Derived.WideKeyArgs
import Derived.MakeChecks
import Derived.KernelRfl
set_option maxRecDepth 100000
set_option maxHeartbeats 16000000
set_option linter.all false
set_option linter.defProp false
namespace Go.Proofs.YtdapogpjhljhaaaGreatDoor
open Go Go.Abs Proofs.Tryz Go.ChangeShapes Go.WideShapes Go.ChangeAt Go.RowKit
section
variable {H:Type}{enc:TypeId×Value->H}{w:World}{base:Nat}{held:Bool}
def QO{fs:Array Field}{t n:Nat}{cs:List Value}{x:DataW H×List MemPlace}(b:prog.underlying t=some (.struct fs))(h:DataW.trod enc prog w base (fun _=>true) held n t cs=some x):
 ∃m,n=m+1/\cs.length=prog.cellsOf t/\∀(i:Nat) (f:Field),fs[i]?=some f->∃y,DataW.trod enc prog w base (fun _=>true) held m f.type ((cs.drop f.offset).take (prog.cellsOf f.type))=some y:=by
 obtain⟨xs,m,rfl,rfl,c,d,a⟩:=DataW.trod_struct b h;refine⟨m,rfl,c,fun i f hi=>?_⟩;have e:i<fs.size:=(qCp.1 hi).1;exact⟨xs[i]'(by omega),by rw[a i f hi,qBm]⟩
def qj7{fs:Array Field}{t n:Nat}{cs:List Value}{x:DataW H×List MemPlace}(d:prog.underlying t=some (.struct fs))(h:DataW.trod enc prog w base (fun _=>true) held n t cs=some x):
 ∃ m,n=m+1/\cs.length=prog.cellsOf t/\(∀(i:Nat) (f:Field),fs[i]?=some f->∃y,DataW.trod enc prog w base (fun _=>true) held m f.type ((cs.drop f.offset).take (prog.cellsOf f.type))=some y) /\
  ∀(i:Nat) (f:Field),fs[i]?=some f->∀y,DataW.trod enc prog w base (fun _=>true) held m f.type ((cs.drop f.offset).take (prog.cellsOf f.type))=some y->∃xs:List (DataW H×List MemPlace),x.1=.agg (xs.map (·.1))/\xs.length=fs.size/\xs[i]?=some y:=by
 obtain⟨xs,m,rfl,rfl,e,b,a⟩:=DataW.trod_struct d h;refine⟨m,rfl,e,fun i f hi=>?_,fun i f hi y c=>⟨xs,rfl,b,?_⟩⟩
 . have g:i<fs.size:=(qCp.1 hi).1;exact⟨xs[i]'(by omega),by rw[a i f hi,qBm]⟩
 rw[<- a i f hi,c]
def k3:prog.cellsOf 3=1:=by kernel_rfl
def k4:prog.cellsOf 4=1:=by kernel_rfl
def k9:prog.cellsOf 9=1:=by kernel_rfl
def k37:prog.cellsOf 36=1:=by kernel_rfl
def k22:prog.cellsOf 22=1:=by kernel_rfl
def k23:prog.cellsOf 23=1:=by kernel_rfl
def k24:prog.cellsOf 24=1:=by kernel_rfl
def k25:prog.cellsOf 25=1:=by kernel_rfl
def k29:prog.cellsOf 29=1:=by kernel_rfl
def k27:prog.cellsOf 27=5:=by kernel_rfl
def k57:prog.cellsOf 61=4:=by kernel_rfl
def k50:prog.cellsOf 58=4:=by kernel_rfl
def k75:prog.cellsOf 44=1:=by kernel_rfl
def k77:prog.cellsOf 46=2:=by kernel_rfl
def qz6:prog.cellsOf 108=4:=by kernel_rfl
def qeb{s:ByteArray}:qi (KMw w) (.str s.data.toList) (.string s):=by
 obtain⟨d⟩:=s;unfold qi;show Value.string ⟨d⟩=Value.string ⟨d.toList.toArray⟩;rw[qDp]
def Z3{n:Nat}{c:Value}{y:DataW H×List MemPlace}(h:DataW.trod enc prog w base (fun _=>true) held n 3 [c]=some y):∃i:Int,c=.int .i64 i:=by
 obtain⟨i,e,_⟩:=DataW.trod_int underlying3 h;exact⟨i,(List.cons.inj e).1⟩
def qrR{n:Nat}{c:Value}{y:DataW H×List MemPlace}(h:DataW.trod enc prog w base (fun _=>true) held n 4 [c]=some y):∃i:Bool,c=.bool i:=by
 obtain⟨i,e,_⟩:=DataW.trod_bool underlying4 h;exact⟨i,(List.cons.inj e).1⟩
def qpY{n:Nat}{c:Value}{y:DataW H×List MemPlace}(h:DataW.trod enc prog w base (fun _=>true) held n 9 [c]=some y):∃s:ByteArray,c=.string s/\Fits s.data.toList:=by
 obtain⟨s,e,_,a⟩:=DataW.trod_string underlying9 h;refine⟨s,(List.cons.inj e).1,?_⟩;have:s.data.toList.length=s.size:=qCW;rw[Fits,this];simp only[maxLen]at a;omega
def qyt{n:Nat}{cs:List Value}{x:DataW H×List MemPlace}(h:DataW.trod enc prog w base (fun _=>true) held n 58 cs=some x):∃v:Var,qj (KMw w) (qu v) cs/\Fits v.name:=by
 obtain⟨m,rfl,g,f⟩:=QO underlying58 h;rw[k50]at g
 match cs,g with
 | [a,b,c,d],_=>
  obtain⟨o,h0⟩:=f 0 _ rfl;obtain⟨j,h1⟩:=f 1 _ rfl;obtain⟨l,h2⟩:=f 2 _ rfl;obtain⟨i,e⟩:=f 3 _ rfl;have h0:DataW.trod enc prog w base (fun _=>true) held m 9 (List.take (prog.cellsOf 9) (List.drop 0 [a,b,c,d]))=some o:=h0;rw[k9]at h0;have h1:DataW.trod enc prog w base (fun _=>true) held m 3 (List.take (prog.cellsOf 3) (List.drop 1 [a,b,c,d]))=some j:=h1;rw[k3]at h1;have h2:DataW.trod enc prog w base (fun _=>true) held m 3 (List.take (prog.cellsOf 3) (List.drop 2 [a,b,c,d]))=some l:=h2;rw[k3]at h2;have e:DataW.trod enc prog w base (fun _=>true) held m 3 (List.take (prog.cellsOf 3) (List.drop 3 [a,b,c,d]))=some i:=e;rw[k3]at e;obtain⟨s,rfl,u⟩:=qpY (c:=a) h0;obtain⟨r,rfl⟩:=Z3 (c:=b) h1;obtain⟨t,rfl⟩:=Z3 (c:=c) h2;obtain⟨y,rfl⟩:=Z3 (c:=d) e;refine⟨⟨s.data.toList,r,t,y⟩,?_,u⟩;simp only[qu,qj];exact⟨_,_,rfl,qeb,_,_,rfl,by simp[qi],_,_,rfl,by simp[qi],_,_,rfl,by simp[qi],rfl⟩
def qnz{n:Nat}{cs:List Value}{x:DataW H×List MemPlace}(h:DataW.trod enc prog w base (fun _=>true) held n 108 cs=some x):∃v:Weight,qj (KMw w) (qC v) cs/\True:=by
 obtain⟨m,rfl,g,f⟩:=QO underlying108 h;rw[qz6]at g
 match cs,g with
 | [a,b,c,d],_=>
  obtain⟨o,h0⟩:=f 0 _ rfl;obtain⟨j,h1⟩:=f 1 _ rfl;obtain⟨l,h2⟩:=f 2 _ rfl;obtain⟨i,e⟩:=f 3 _ rfl;have h0:DataW.trod enc prog w base (fun _=>true) held m 3 (List.take (prog.cellsOf 3) (List.drop 0 [a,b,c,d]))=some o:=h0;rw[k3]at h0;have h1:DataW.trod enc prog w base (fun _=>true) held m 3 (List.take (prog.cellsOf 3) (List.drop 1 [a,b,c,d]))=some j:=h1;rw[k3]at h1;have h2:DataW.trod enc prog w base (fun _=>true) held m 3 (List.take (prog.cellsOf 3) (List.drop 2 [a,b,c,d]))=some l:=h2;rw[k3]at h2;have e:DataW.trod enc prog w base (fun _=>true) held m 4 (List.take (prog.cellsOf 4) (List.drop 3 [a,b,c,d]))=some i:=e;rw[k4]at e;obtain⟨t,rfl⟩:=Z3 (c:=a) h0;obtain⟨r,rfl⟩:=Z3 (c:=b) h1;obtain⟨s,rfl⟩:=Z3 (c:=c) h2;obtain⟨u,rfl⟩:=qrR (c:=d) e;refine⟨⟨t,r,s,u⟩,?_,trivial⟩;simp[qj,qi]
def quW{n:Nat}{cs:List Value}{x:DataW H×List MemPlace}(h:DataW.trod enc prog w base (fun _=>true) held n 46 cs=some x):∃v:Dist,qj (KMw w) (zu v) cs/\Fits v.weights:=by
 obtain⟨m,rfl,i,f⟩:=QO underlying46 h;rw[k77]at i
 match cs,i with
 | [a,b],_=>
  obtain⟨o,h0⟩:=f 0 _ rfl;obtain⟨d,h1⟩:=f 1 _ rfl;have h0:DataW.trod enc prog w base (fun _=>true) held m 3 (List.take (prog.cellsOf 3) (List.drop 0 [a,b]))=some o:=h0;rw[k3]at h0;have h1:DataW.trod enc prog w base (fun _=>true) held m 44 (List.take (prog.cellsOf 44) (List.drop 1 [a,b]))=some d:=h1;rw[k75]at h1;obtain⟨r,rfl⟩:=Z3 (c:=a) h0;have g:DataW.trod enc prog w base (fun _=>true) held m 44 [b]=some d:=h1
  cases m with
  |zero=>simp[DataW.trod]at g
  | succ m=>
   obtain⟨l,v,e,j,s,_⟩:=wC (en:=qC) (good:=fun _=>True) underlying44 qz6 (by omega) (fun y=>by simp[AV.atom]) (fun cs x h=>qnz h) g;cases e;refine⟨⟨r,l⟩,?_,s⟩;simp only[zu,qj,qi];exact⟨_,_,rfl,rfl,_,[],rfl,by simpa only[qi] using j,rfl⟩
def quV{n:Nat}{cs:List Value}{x:DataW H×List MemPlace}(h:DataW.trod enc prog w base (fun _=>true) held n 36 cs=some x):∃l:List Int,qj (KMw w) (qn l) cs/\Fits l:=by
 cases n with
 |zero=>simp[DataW.trod]at h
 | succ m=>
  obtain⟨l,v,rfl,a,b,_⟩:=wC (en:=qf) (good:=fun _=>True) underlying36 k3 (by omega) (fun y=>by simp[AV.atom]) (fun cs x h=>by
   obtain⟨i,e,_⟩:=DataW.trod_int underlying3 h;exact⟨i,by rw[e];simp[qj,qi],trivial⟩) h
  refine⟨l,?_,b⟩;simp only[qn,qj];exact⟨v,[],rfl,a,rfl⟩
def rdE:∀(N n:Nat),n<=N->∀{cs:List Value}{x:DataW H×List MemPlace},DataW.trod enc prog w base (fun _=>true) held n 61 cs=some x->∃e:Ex,qj (KMw w) (qo e) cs/\Wen e:=by
 intro N
 induction N with
 | zero=>
  intro n I cs x h;have:n=0:=by omega
  subst this;simp[DataW.trod]at h
 | succ N ih=>
  intro n I cs x h;obtain⟨m,rfl,r,g⟩:=QO underlying61 h;rw[k57]at r
  match cs,r with
  | [a,b,c,d],_=>
   obtain⟨u,h0⟩:=g 0 _ rfl;obtain⟨D,h1⟩:=g 1 _ rfl;obtain⟨t,h2⟩:=g 2 _ rfl;obtain⟨j,f⟩:=g 3 _ rfl;have h0:DataW.trod enc prog w base (fun _=>true) held m 3 (List.take (prog.cellsOf 3) (List.drop 0 [a,b,c,d]))=some u:=h0;rw[k3]at h0;have h1:DataW.trod enc prog w base (fun _=>true) held m 3 (List.take (prog.cellsOf 3) (List.drop 1 [a,b,c,d]))=some D:=h1;rw[k3]at h1;have h2:DataW.trod enc prog w base (fun _=>true) held m 9 (List.take (prog.cellsOf 9) (List.drop 2 [a,b,c,d]))=some t:=h2;rw[k9]at h2;have f:DataW.trod enc prog w base (fun _=>true) held m 23 (List.take (prog.cellsOf 23) (List.drop 3 [a,b,c,d]))=some j:=f;rw[k23]at f;obtain⟨C,rfl⟩:=Z3 (c:=a) h0;obtain⟨F,rfl⟩:=Z3 (c:=b) h1;obtain⟨s,rfl,G⟩:=qpY (c:=c) h2;have o:DataW.trod enc prog w base (fun _=>true) held m 23 [d]=some j:=f
   cases m with
   |zero=>simp[DataW.trod]at o
   | succ m=>
    obtain⟨l,v,e,J,A,E⟩:=wC (en:=qo) (good:=Wen) underlying23 k57 (by omega) (fun y=>by rw[qd];simp[AV.atom]) (fun cs x h=>ih m (by omega) h) o;cases e;refine⟨.mk C F s.data.toList l,?_,?_⟩
    . rw[qd];simp only[qj,qFy,qFz,qFA,qFB];exact⟨_,_,rfl,by simp[qi],_,_,rfl,by simp[qi],_,_,rfl,qeb,_,[],rfl,J,rfl⟩
    intro y i;rw[jv]at i;rcases qBN.1 i with rfl|i
    . exact⟨A,G⟩
    obtain⟨a,z,B⟩:=QS.1 i;exact E a z y B
def b3:prog.bytesOf 3=8:=by kernel_rfl
def quk{P:Program}{e:TypeId}:∀{E:List (DataW H)}{d:DataW H},d∈E->∀k∈d.weights P e,k∈DataW.weightsAll P e E
 |[],_,h,_,_=>nomatch h
 | a::r,d,h,k,b=>by
  simp only[DataW.weightsAll,qBC];rcases qBN.1 h with rfl|h
  . exact .inl b
  exact .inr (quk h k b)
def qnA{n:Nat}{cs:List Value}{x:DataW H×List MemPlace}(h:DataW.trod enc prog w base (fun _=>true) held (n+1) 25 cs=some x)(r:∀k∈x.1.weights prog 25,k<=reachBytes):
 ∃(l:List (List Int)) (v:Value),cs=[v]/\qi (KMw w) (.sl 1 (l.map qn) .none) v/\Fits l/\∀y∈l,Fits y/\y.length<17592186044416:=by
 obtain⟨l,v,h1,h2,f,j,_⟩:=KQ (en:=qn) (good:=fun g=>Fits g/\g.length<17592186044416) (X:=fun d=>∀k∈d.weights prog 36,k<=reachBytes) underlying25 k37 (by omega) (fun y=>by simp[AV.atom]) (fun cs x h b=>by
  cases n with
  |zero=>simp[DataW.trod]at h
  | succ m=>
   obtain⟨l,v,rfl,c,s,_,o⟩:=KQ (en:=qf) (good:=fun _=>True) (X:=fun _=>True) underlying36 k3 (by omega) (fun y=>by simp[AV.atom]) (fun cs x h _=>by
    obtain⟨i,e,_⟩:=DataW.trod_int underlying3 h;exact⟨i,by rw[e];simp[qj,qi],trivial⟩) h (fun _ _ _ _ _=>trivial)
   refine⟨l,?_,s,?_⟩
   . simp only[qn,qj];exact⟨v,[],rfl,c,rfl⟩
   have:=o 17592186044415 fun E S e=>by
    have:=b ((E.length+S.length)*prog.bytesOf 3) (by rw[e];simp only[DataW.weights,underlying36];exact qDl);rw[b3]at this;simp only[reachBytes]at this;omega
   omega) h (fun E S e d hd k a=>r k (by
    rw[e];simp only[DataW.weights,underlying25];exact qCE _ (qB5 _ (quk hd k a))))
 exact⟨l,v,h1,h2,f,j⟩
def rdC{p:Problem}{n:Nat}{cs:List Value}{x:DataW H×List MemPlace}(h:DataW.trod enc prog w base (fun _=>true) held n 29 cs=some x):∃c:List (List Int),qj (KMw w) (jp c) cs/\HC p c:=by
 obtain⟨m,rfl,e,i⟩:=QO underlying29 h;rw[k29]at e
 match cs,e with
 | [a],_=>
  obtain⟨d,h0⟩:=i 0 _ rfl;have h0:DataW.trod enc prog w base (fun _=>true) held m 25 (List.take (prog.cellsOf 25) (List.drop 0 [a]))=some d:=h0;rw[k25]at h0;have b:DataW.trod enc prog w base (fun _=>true) held m 25 [a]=some d:=h0
  cases m with
  |zero=>simp[DataW.trod]at b
  | succ m=>
   obtain⟨j,r,o,l,f0,f⟩:=wC (en:=qn) (good:=fun g=>Fits g) underlying25 k37 (by omega) (fun y=>by simp[AV.atom]) (fun cs x h=>quV h) b;cases o;refine⟨j,?_,⟨f0,f⟩⟩;simp only[jp,qj];exact⟨_,_,rfl,l,rfl⟩
def rdP{n:Nat}{cs:List Value}{x:DataW H×List MemPlace}(h:DataW.trod enc prog w base (fun _=>true) held n 27 cs=some x)(K:∀k∈x.1.weights prog 27,k<=reachBytes):∃p:Problem,qj (KMw w) (qw p) cs/\VM p:=by
 have D:∀f,(∃xs:List (DataW H×List MemPlace),x.1=.agg (xs.map (·.1))/\xs.length=5/\xs[4]?=some f)->∀k∈f.1.weights prog 25,k<=reachBytes:=by
  rintro f ⟨xs,e,r,i⟩ k L;refine K k ?_;rw[e]
  match xs,r with
  | [a,b,c,d,e],_=>
   simp at i;subst i;simp only[DataW.weights,underlying27,qBz,qBS,DataW.weightsEach,qBC];exact .inr (.inr (.inr (.inr (.inl L))))
 obtain⟨m,rfl,r,l,hy⟩:=qj7 underlying27 h;rw[k27]at r
 match cs,r with
 | [a,b,c,d,e],_=>
  obtain⟨B,h0⟩:=l 0 _ rfl;obtain⟨C,h1⟩:=l 1 _ rfl;obtain⟨t,h2⟩:=l 2 _ rfl;obtain⟨A,o⟩:=l 3 _ rfl;obtain⟨f,i⟩:=l 4 _ rfl;have S:=D f (hy 4 _ rfl f i);have h0:DataW.trod enc prog w base (fun _=>true) held m 22 (List.take (prog.cellsOf 22) (List.drop 0 [a,b,c,d,e]))=some B:=h0;rw[k22]at h0;have h1:DataW.trod enc prog w base (fun _=>true) held m 23 (List.take (prog.cellsOf 23) (List.drop 1 [a,b,c,d,e]))=some C:=h1;rw[k23]at h1;have h2:DataW.trod enc prog w base (fun _=>true) held m 23 (List.take (prog.cellsOf 23) (List.drop 2 [a,b,c,d,e]))=some t:=h2;rw[k23]at h2;have o:DataW.trod enc prog w base (fun _=>true) held m 24 (List.take (prog.cellsOf 24) (List.drop 3 [a,b,c,d,e]))=some A:=o;rw[k24]at o;have i:DataW.trod enc prog w base (fun _=>true) held m 25 (List.take (prog.cellsOf 25) (List.drop 4 [a,b,c,d,e]))=some f:=i;rw[k25]at i;have u:DataW.trod enc prog w base (fun _=>true) held m 22 [a]=some B:=h0;have X:DataW.trod enc prog w base (fun _=>true) held m 23 [b]=some C:=h1;have P:DataW.trod enc prog w base (fun _=>true) held m 23 [c]=some t:=h2;have R:DataW.trod enc prog w base (fun _=>true) held m 24 [d]=some A:=o;have G:DataW.trod enc prog w base (fun _=>true) held m 25 [e]=some f:=i
  cases m with
  |zero=>simp[DataW.trod]at u
  | succ m=>
   obtain⟨O,v0,Q,I,f0,U⟩:=wC (en:=qu) (good:=fun v=>Fits v.name) underlying22 k50 (by omega) (fun y=>by simp[AV.atom]) (fun cs x h=>qyt h) u;obtain⟨l1,v1,T,r1,f1,Y⟩:=wC (en:=qo) (good:=Wen) underlying23 k57 (by omega) (fun y=>by rw[qd];simp[AV.atom]) (fun cs x h=>rdE m m (qBs _) h) X;obtain⟨l2,v2,E,r2,W,J⟩:=wC (en:=qo) (good:=Wen) underlying23 k57 (by omega) (fun y=>by rw[qd];simp[AV.atom]) (fun cs x h=>rdE m m (qBs _) h) P;obtain⟨N,v3,F,r3,M,g3⟩:=wC (en:=zu) (good:=fun d=>Fits d.weights) underlying24 k77 (by omega) (fun y=>by simp[AV.atom]) (fun cs x h=>quW h) R;obtain⟨l4,v4,e4,Z,V,z⟩:=qnA G S;cases Q;cases T;cases E;cases F;cases e4;refine⟨⟨O,l1,l2,N,l4⟩,?_,⟨⟨U,fun e j=>?_,M,g3,V,fun g s=>(z g s).1⟩,f0,f1,W,fun g s=>(z g s).2⟩⟩
   . simp only[qw,qj];exact⟨_,_,rfl,I,_,_,rfl,r1,_,_,rfl,r2,_,_,rfl,r3,_,_,rfl,Z,rfl⟩
   rcases qBC.1 j with j|j
   . exact Y e j
   exact J e j
def k42:prog.cellsOf 32=2:=by kernel_rfl
def k40:prog.cellsOf 30=1:=by kernel_rfl
def qpX{n:Nat}{c:Value}{y:DataW H×List MemPlace}(h:DataW.trod enc prog w base (fun _=>true) held n 30 [c]=some y):∃i:Int,c=.int .u64 i:=by
 obtain⟨i,e,_⟩:=DataW.trod_int underlying30 h;exact⟨i,(List.cons.inj e).1⟩
def rdR{n:Nat}{cs:List Value}{x:DataW H×List MemPlace}(h:DataW.trod enc prog w base (fun _=>true) held n 32 cs=some x):∃r:Rng,qj (KMw w) (jt r) cs/\True:=by
 obtain⟨m,rfl,d,e⟩:=QO underlying32 h;rw[k42]at d
 match cs,d with
 | [a,b],_=>
  obtain⟨f,h0⟩:=e 0 _ rfl;obtain⟨g,h1⟩:=e 1 _ rfl;have h0:DataW.trod enc prog w base (fun _=>true) held m 30 (List.take (prog.cellsOf 30) (List.drop 0 [a,b]))=some f:=h0;have h1:DataW.trod enc prog w base (fun _=>true) held m 30 (List.take (prog.cellsOf 30) (List.drop 1 [a,b]))=some g:=h1;rw[k40]at h0 h1;obtain⟨i,rfl⟩:=qpX (c:=a) h0;obtain⟨j,rfl⟩:=qpX (c:=b) h1;refine⟨(i,j),?_,trivial⟩;simp only[jt,qj];exact⟨_,_,rfl,rfl,_,_,rfl,rfl,rfl⟩
end
def qr7:ownKnob prog.godebug=none:=by kernel_rfl
def ZC:laidOutB prog=true:=by kernel_rfl
def qy9:prog.globalNamed "testbench/lexer.keywords" = some 0:=by kernel_rfl
def qym:(prog.globals[0]?).map (·.type)=some 97:=by kernel_rfl
/-- A list of texts that reads as a known one. -/
def qrQ{H:Type}{enc:TypeId×Value->H}{w:World}{base:Nat}{held:Bool}{n:Nat}{cs:List Value}{p:List MemPlace}{K:List Str}
 (h:DataW.trod enc prog w base (fun _=>true) held n 97 cs=some (.slice (K.map fun k=>.lit (.string k)) [],p)) (I:K≠[]):
 ∃v,cs=[v]/\qi (KMw w) (.sl 1 (K.map jo) .none) v:=by
 have g:∀(m:Nat) (cs:List Value) (x:DataW H×List MemPlace),DataW.trod enc prog w base (fun _=>true) held m 9 cs=some x->∃k:Str,qj (KMw w) (jo k) cs/\x.1=.lit (.string k):=by
  intro m cs x h;obtain⟨s,rfl,rfl,_⟩:=DataW.trod_string underlying9 h;refine⟨s.data.toList,?_,rfl⟩;simp only[jo,qj];exact⟨_,[],rfl,qeb,rfl⟩
 rcases DataW.trod_slice underlying97 h with⟨_,e⟩|⟨a,len,cap,M,rest,m,X,rfl,e,hb,V,W,Q,y,Y,_⟩
 . simp at e
 simp only[qBK,DataW.slice.injEq]at e;obtain⟨⟨t,T⟩,_⟩:=e;have S:len=K.length:=by rw[<- Q];have:=congrArg List.length t;simpa using this.symm
 have C:0<K.length:=qBA.2 I;rw[k9]at y;have one:∀i (hi:i<K.length),∃c,w.cells? base (a.add (i*1)) 1=some c/\qj (KMw w) (jo K[i]) c:=by
  intro i hi;have B:=y i (by omega);rw[qBm (by omega)]at B;obtain⟨c,h1,h2⟩:=qCY.1 B;obtain⟨k,D,J⟩:=g m c _ h2;refine⟨c,h1,?_⟩;have d:(M.map (·.1))[i]?=(K.map fun k=>(DataW.lit (.string k):DataW H))[i]?:=by rw[t]
  rw[qBO,qBO,qBm (by omega),qBm hi]at d;simp only[qEt,qBI]at d;rw[J]at d;have R:k=K[i]:=by simpa using d
  rw[<- R];exact D
 have A:a.spot=none:=by
  obtain⟨c,h1,_⟩:=one 0 C;rw[qDa]at h1;obtain⟨_,F,l⟩:=World.cells?_some h1;have:=l 0 (by omega);rw[qBm (by omega)]at this
  cases g:a.spot with
  |none=>rfl
  | some s=>
   simp only[Addr.add,if_true]at this;unfold World.cell? at this;rw[g]at this;split at this<;>simp at this
 obtain⟨b,o,s⟩:=a;simp only at A;subst A;refine⟨_,rfl,?_⟩;simp only[qi];refine .inr ⟨b,o,cap,by simp[S],by simp;omega,qGa b 1 _ o fun i r e=>?_,trivial⟩;rw[qBO,qBu]at e;obtain⟨k,O,rfl⟩:=e;obtain⟨hi,G⟩:=qBk.1 O;obtain⟨c,h1,h2⟩:=one i hi;rw[G]at h2;obtain⟨_,F,l⟩:=World.cells?_some h1;obtain⟨U,L⟩:=qj.get h2;refine⟨rfl,rfl,qF9 b _ _ fun j z u=>?_⟩;have E:j=0:=by
  have:=(qBk.1 u).1;simp at this;exact this
 subst E;obtain⟨v,N,P⟩:=L 0 z u;refine⟨v,?_,P⟩;have:=l 0 (by omega);rw[N]at this;show w.cell? ⟨b,o+i*1+0,none⟩=some v;rw[<- this];congr 1;simp only[Addr.add,if_true];by_cases f:i*1=0
 . rw[if_pos f,f];simp
 rw[if_neg f];simp
abbrev qic:List (String×DataW Unit):=Rows.cyclicSolvesRow.laid
/-- What the condition gives: the keywords. -/
def qsg{W:World}(h:laidMetH prog qic W):qi (KMw W) (.rptr [.sl 1 (qdQ.map jo) .none]) (.pointer (some ⟨0,0,none⟩)):=by
 rw[MakeChecks.laidMetH_plain _ _ _ (by kernel_rfl)]at h;obtain⟨B,⟨l,F,r,f0,w,G,_,_,_,_,⟨y,m,E,f1,p1,s,_,_,_,_,⟨x,D,C,t,p2,o,_,_,_,_,⟨A,j,u,z,p3,i,a,g,c,hd,_,_⟩,_⟩,_⟩,_⟩,_,_⟩:=h;obtain rfl:=Option.some.inj (qy9.symm.trans a);obtain rfl:=Option.some.inj (qym.symm.trans g);obtain⟨v,e,b⟩:=qrQ (K:=qdQ) hd (by decide);have d:W.cell? ⟨0,0,none⟩=some v:=by
  have:=World.var?_cell a c 0;rw[Array.eq_one_of_toList e]at this;simpa using this
 have f:qi (KMw W) (.rptr [.sl 1 (qdQ.map jo) .none]) (.pointer (some ⟨0,0,none⟩)):=by
  unfold qi;refine⟨0,0,rfl,?_⟩;unfold qq;exact⟨⟨v,d,b⟩,by unfold qq;trivial⟩
 exact f
def qo0(os:Os)(args:Array Value):laidMetH prog qic ((World.doorLaid prog 400 os).forCall (fun _ _=>0) ⟨#[],args,[]⟩).memory :=
 laidMetH_of_parts3 (fuel:=8) (laidMet_of_run' 8 (by kernel_rfl) (by kernel_rfl)) (by kernel_rfl) (by kernel_rfl)
def qla{W:World}(a:laidMetH prog qic W):∀g,qi (KMw W) (GG g) (.pointer (some ⟨g,0,none⟩)):=by
 intro g
 cases g with
 |zero=>exact qsg a
 |succ g=>simp only[GG,qi]
abbrev vW(n:Int):List AV:=[.int .i64 1,.int .i64 n,.str [],.sl 0 [] .nil]
def qaD(n):zl (vW n) (qo (z8 n)):=by
 rw[qd];simp[z8,zl,Leq]
abbrev qdN(s:Str):List AV:=[.int .i64 2,.int .i64 0,.str s,.sl 0 [] .nil]
def qaC(s):zl (qdN s) (qo (wO s)):=by
 rw[qd];simp[wO,zl,Leq]
def qlg(c:List Rg):(c.flatMap fun r=>[z8 r.1,z8 r.2])=(zk c).map z8:=by
 unfold zk
 induction c with
 |nil=>rfl
 |cons r c ih=>rw[qBJ,qBJ,ih];simp
def qcW:∀(l:List Int),ym (l.map vW) ((l.map z8).map qo)
 |[]=>YZ
 |n::l=>yQ (.inr ⟨qaD n,z0 _⟩) (qcW l)
def qgq(s)(c:List Rg):ym (qdN s::(zk c).map vW) ((kA s c).args.map qo):=by
 have:(kA s c).args=wO s::(zk c).map z8:=by rw[<- qlg];rfl
 rw[this,qBz];exact yQ (.inr ⟨qaC s,z0 _⟩) (qcW _)
def qmD(l d:List Int):List Int:=(d.zipIdx).flatMap fun q=>qiF l q.2 q.1
def qlZ(l d n):qmD l (d++[n])=qmD l d++qiF l d.length n:=by
 unfold qmD;rw[qDB,List.flatMap_append];simp
def qpk(l i n):(qiF l i n).length<=2:=by
 unfold qiF;split<;>split<;>simp
def qgS(l d):(qmD l d).length<=2*d.length:=by
 unfold qmD;generalize 0=k
 induction d generalizing k with
 |nil=>simp
 | cons n d ih=>
  rw[List.zipIdx_cons,qBJ,qBp];have:=qpk l k n;have:=ih (k+1);simp only[qBB];omega
def qz9(H s n)(a:s.length<2^20):qm (Dof prog) ⟨H,jP [] s⟩ 23 (wN 4 vW 0 s) (.sl 4 [vW n] .tight)=some (wN 4 vW 0 (s++[n]),⟨H,jP [] (s++[n])⟩) :=
 yg (D:=Dof prog) (sz:=4) (T:=[]) (H:=H) (m:=[n]) (en:=vW) D23 rfl D61 rfl (by decide) rfl (by decide) (by simp;omega) 4 (.inl rfl)
def kc(s:List Int):qM (s.map vW)=true:=zj (fun x=>by simp[qr,qE]) s
def qpd(s:List Int):Pure prog GG 54 [.sl 4 (s.map vW) .none,.int .i64 32] (.fn 92 [] [.rptr [.sl 4 (s.map vW) .none],.rptr [.int .i64 32]]):=by
 have a:=kc s;generalize s.map vW=rows at a;refine qFC o0 true func54 ?_;simp;have e:frz [Blk.cells [AV.sl 4 rows Abs.Tok.none],Blk.cells [AV.int IntKind.i64 32]] 8 (AV.fn 92 [] [AV.ptr 0 0,AV.ptr 1 0])=.fn 92 [] [.rptr [.sl 4 rows .none],.rptr [.int .i64 32]]:=by
  have b:frz [Blk.cells [AV.sl 4 rows Abs.Tok.none],Blk.cells [AV.int IntKind.i64 32]] 7 (.ptr 0 0)=.rptr [.sl 4 rows .none]:=by
   rw[qba (c:=[AV.sl 4 rows Abs.Tok.none]) rfl];simp[show ∀H k,frz H k (.sl 4 rows .none)=.sl 4 rows .none from fun H k=>ql (by simpa[qE] using a)]
  have p1:frz [Blk.cells [AV.sl 4 rows Abs.Tok.none],Blk.cells [AV.int IntKind.i64 32]] 7 (.ptr 1 0)=.rptr [.int .i64 32]:=by
   rw[qba (c:=[AV.int IntKind.i64 32]) rfl];simp[wL]
  rw[frz];simp[qE,qr,b,p1]
 rw[e];exact⟨by simp[qE,qr,a],qFN _⟩
structure NearK(k)(c:List AV)(Y)(S:List Blk->Prop:=fun _=>True):Prop where
 len:c.length=4
 atoms:c.all AV.atom=true
 fz:∀H,S H->∀j,k<=j->zl (c.map (frz H j)) (qo Y)/\qr (c.map (frz H j))=true/\(c.map (frz H j)).all AV.atom=true
def NearK.mono{k k' c Y S}(h:NearK k c Y S)(b:k<=k'):NearK k' c Y S:=⟨h.len,h.atoms,fun H a j d=>h.fz H a j (by omega)⟩
def Wo{H j}:∀{c:List AV},qr c=true->c.map (frz H j)=c
 |[],_=>rfl
 | a::r,h=>by
  simp only[qr,qBq]at h;rw[qBz,ql h.1,Wo h.2]
def kI{H j}:∀{c:List (List AV)},qM c=true->c.map (·.map (frz H j))=c
 |[],_=>rfl
 | a::r,h=>by
  simp only[qM,qBq]at h;rw[qBz,Wo h.1,kI h.2]
def qsO{H j rows tok}(d:qM (rows.map (·.map (frz H j)))=true)(c:(rows.map (·.map (frz H j))).all (·.all AV.atom)=true):
 ∃a,frz H (j+1) (.sl 4 rows tok)=.sl 4 (rows.map (·.map (frz H j))) a/\qE (.sl 4 (rows.map (·.map (frz H j))) a)=true:=by
 by_cases h:qE (.sl 4 rows tok)=true
 . have b:qM rows=true:=by
    cases tok with
    |chain=>simp[qE]at h
    |_=>simpa[qE] using h
   rw[kI b];exact⟨tok,ql h,h⟩
 refine⟨.none,?_,by simp only[qE,d];rfl⟩;rw[frz,if_neg h,if_pos c]
def qaZ{k:Nat}{o n:Int}{s:Str}{rows:List (List AV)}{args:List Ex}{tok:Abs.Tok}{S:List Blk->Prop}(h:∀H,S H->∀j,k<=j->ym (rows.map (·.map (frz H j))) (args.map qo)/\qM (rows.map (·.map (frz H j)))=true/\(rows.map (·.map (frz H j))).all (·.all AV.atom)=true):
 NearK (k+1) [.int .i64 o,.int .i64 n,.str s,.sl 4 rows tok] (.mk o n s args) S:=by
 refine⟨rfl,rfl,fun H c j g=>?_⟩;obtain⟨j,rfl⟩:∃i,j=i+1:=⟨j-1,by omega⟩;obtain⟨h1,h2,b⟩:=h H c j (by omega);obtain⟨d,e,f⟩:=qsO (tok:=tok) h2 b;have a:[AV.int .i64 o,.int .i64 n,.str s,.sl 4 rows tok].map (frz H (j+1))=[.int .i64 o,.int .i64 n,.str s,.sl 4 (rows.map (·.map (frz H j))) d]:=by
  simp only[qBz,qBS,wL,qa9,e]
 rw[a];refine⟨?_,by simp only[qr,f];simp[qE],rfl⟩;rw[qd];simp only[zl,Leq,and_true,true_and,qFy,qFz,qFA,qFB];exact .inr ⟨h1,.inl trivial⟩
def qoc(n):NearK 0 (vW n) (z8 n):=⟨rfl,rfl,fun H _ j _=>by
 rw[Wo (by simp)];exact⟨qaD n,by simp⟩⟩
def qod(s)(c:List Rg)(tok):NearK 1 [.int .i64 23,.int .i64 0,.str [],.sl 4 (qdN s::(zk c).map vW) tok] (kA s c) :=
 qaZ (k:=0) (args:=(kA s c).args) fun H _ j _=>by
  rw[kI (by simp[kc])];exact⟨qgq s c,by simp[kc],by simp[qBx]⟩
def qeC{k c d Y Z tok S}(h:NearK k c Y S)(hd:NearK k d Z S):NearK (k+1) [.int .i64 20,.int .i64 0,.str [],.sl 4 [c,d] tok] (orE Y Z) S :=
 qaZ (args:=[Y,Z]) fun H b j a=>by
  obtain⟨h1,h2,f⟩:=h.fz H b j a;obtain⟨g,i,e⟩:=hd.fz H b j a;simp only[qBz,qBS];refine⟨yQ (.inr ⟨h1,z0 _⟩) (yQ (.inr ⟨g,z0 _⟩) YZ),by simp[*],by simp only[qCH,qEW,f,e];rfl⟩
def NearK.agg{k n c Y S}(h:NearK k c Y S)(d:k<=n)(H)(f:S H):qE (frz H (n+1) (.agg c))=true/\Leq (frz H (n+1) (.agg c)) (.agg (qo Y)):=by
 obtain⟨h1,h2,g⟩:=h.fz H f n d;by_cases a:qE (.agg c)=true
 . have b:qr c=true:=(by simpa[qE] using a);rw[Wo b]at h1;rw[ql a];exact⟨a,by simpa[Leq] using h1⟩
 have e:frz H (n+1) (.agg c)=.agg (c.map (frz H n)):=by rw[frz,if_neg a]
 rw[e];exact⟨by simpa[qE] using h2,by simpa[Leq] using h1⟩
def qhX(a:List Rg)(i):W5 ((zk a).map vW) i=(zk ((a.drop (16*i)).take 16)).map vW:=by
 rw[<- V4];unfold W5;rw[List.map_take,qFo]
def MkJ(s:Str)(a:List Rg)(i:Nat)(σ:St):Prop :=
 ∃o c1 c2 c3 t,σ.H=.cells [.str s]::.cells [.int .i64 0,.int .i64 0,.str [],.sl 0 [] .nil]::.cells [.int .i64 o,c1,c2,c3]::t/\NearK i [.int .i64 o,c1,c2,c3] (qsr s a i)/\(i=0->o=1)/\(i≠0->o≠1)
def MeJ(s:Str)(l d:List Int)(env:Env)(σ:St):Prop :=
 env 1=.sl 1 (l.map qf) .none/\env 12=.sl 1 (l.map qf) .none/\env 13=.int .i64 l.length/\env 14=.int .i64 d.length/\env 2=.ptr 0 0/\env 4=.ptr 1 0/\env 5=wN 4 vW 0 (qmD l d) /\
  σ=⟨[.cells [.str s],.cells [.int .i64 0,.int .i64 0,.str [],.sl 0 [] .nil]],jP [] (qmD l d)⟩
def qoh(s:Str)(l:List Int)(h0:l≠[])(hl:l.length<=1000)(hr:∀n∈l,0<=n/\n<=65535)(e7:(jr l).length<=112):Pure prog GG 24 [.str s,.sl 1 (l.map qf) .none] (.agg (qo (zT s (jr l)))):=by
 refine qFC o0 true func24 ?_;have w1:IntKind.i64.wrap 1=1:=wr;have w0:IntKind.i64.wrap 0=0:=wr;simp;refine qFW l (fun d ev σ=>MeJ s l d ev σ) ?_ ?_ ?_
 . simp[MeJ,qmD]
 . rintro d n r ev ⟨H,T⟩ R hR hd E a5 ⟨f,b,a,C,x,D,u,hσ⟩;obtain⟨rfl,rfl⟩:=(St.mk.injEq _ _ _ _).mp hσ;have d8:=hr n (qBl E);have hw:=wr (n:=(d.length:Int)+1);have X:=wr (n:=n-1);have W:=wr (n:=n+1);have J:=wr (n:=(l.length:Int)-1);have e3:=qgS l d;have b0:=qlZ l d n;generalize qmD l d=B at *;have F:=fun H=>qz9 H B n (by omega)
   have G:=fun H=>qz9 H (B++[n]) n (by simp;omega)
   have fin:∀I T',I 1=.sl 1 (l.map qf) .none->I 12=.sl 1 (l.map qf) .none->I 13=.int .i64 l.length->I 14=.int .i64 ((d.length:Int)+1)->I 2=.ptr 0 0->I 4=.ptr 1 0->I 5=wN 4 vW 0 (B++qiF l d.length n) ->
    T'=jP [] (B++qiF l d.length n)->R I ⟨[.cells [.str s],.cells [.int .i64 0,.int .i64 0,.str [],.sl 0 [] .nil]],T'⟩:=by
    intro I T' b1 d1 c4 d3 b2 b4 b5 hT;exact hR _ _ ⟨b1,d1,c4,by rw[d3];simp,b2,b4,by rw[b0];exact b5,by rw[b0,hT]⟩
   have d6:(d.length=0/\(if d.length=0\/l.getD (d.length-1) 0≠n-1 then [n] else [])=[n])\/∃k y,d.length=k+1/\l[k]?=some y/\(if d.length=0\/l.getD (d.length-1) 0≠n-1 then [n] else [])=if y=n-1 then [] else [n]:=by
    rcases qCI d.length with h|h
    . exact .inl ⟨h,by rw[if_pos (.inl h)]⟩
    obtain⟨k,M⟩:∃k,d.length=k+1:=⟨d.length-1,by omega⟩;have A:=qBm (l:=l) (i:=k) (by omega);refine .inr ⟨k,_,M,A,?_⟩;rw[M,qBw,Nat.add_sub_cancel,A];simp
   have c9:(d.length+1=l.length/\(if d.length+1=l.length\/l.getD (d.length+1) 0≠n+1 then [n] else [])=[n])\/∃z,d.length+1<l.length/\l[d.length+1]?=some z/\(if d.length+1=l.length\/l.getD (d.length+1) 0≠n+1 then [n] else [])=if z=n+1 then [] else [n]:=by
    by_cases h:d.length+1=l.length
    . exact .inl ⟨h,by rw[if_pos (.inl h)]⟩
    have A:=qBm (l:=l) (i:=d.length+1) (by omega);refine .inr ⟨_,by omega,A,?_⟩;rw[qBw,A];simp[h]
   unfold qiF at fin;generalize hm:d.length=m at *;rcases d6 with⟨rfl,h2⟩|⟨k,y,rfl,A,h2⟩<;>rcases c9 with⟨g1,Z⟩|⟨z,g1,hz,Z⟩
   . rw[h2,Z]at fin;have j:(l.length:Int)-1=((0:Nat):Int):=(by omega);rw[j]at J;simp[-getElem?_pos,j,F,G,f,b,a,C,u,a5,E,w0,w1,h0,qV,zt,qx];exact fin _ _ (by simp[f]) (by simp[b]) (by simp[a]) (by simp) (by simp[x]) (by simp[D]) (by simp[]) (by simp)
   . rw[h2,Z]at fin;have j:¬(0:Int)=(l.length:Int)-1:=(by omega);have a7:l[1]?=some z:=(by simpa using hz);by_cases w:z=n+1
     . rw[if_pos w]at fin;simp[-getElem?_pos,j,a7,w,F,G,f,b,a,C,u,a5,E,W,J,w1,h0,qV,zt,qx];exact fin _ _ (by simp[f]) (by simp[b]) (by simp[a]) (by simp) (by simp[x]) (by simp[D]) (by simp[]) (by simp)
     rw[if_neg w]at fin;simp[-getElem?_pos,j,a7,w,F,G,f,b,a,C,u,a5,E,W,J,w1,h0,qV,zt,qx];exact fin _ _ (by simp[f]) (by simp[b]) (by simp[a]) (by simp) (by simp[x]) (by simp[D]) (by simp[]) (by simp)
   . rw[h2,Z]at fin;have j:(l.length:Int)-1=((k:Int)+1):=(by omega);have gk:((k+1:Nat):Int)-1=(k:Int):=(by omega);have V:(k:Int)+1-1=(k:Int):=(by omega);have Q:=wr (n:=(k:Int));have b9:=wr (n:=(k:Int)+1);have S:=wr (n:=(k:Int)+1+1);have kl:(k:Int)<l.length:=(by omega);have e0:k<l.length:=(by omega);have L:(k:Int)+1<l.length:=(by omega);have K:¬(k:Int)+1=0:=(by omega);have N:(0:Int)<=(k:Int)+1:=(by omega);have O:((k:Int)+1).toNat=k+1:=(by omega);rw[j]at J;by_cases hb:y=n-1
     . rw[if_pos hb]at fin;simp[j,V,Q,b9,L,K,N,O,A,hb,F,G,f,b,a,C,u,E,X,h0,qV,zt,qx];exact fin _ _ (by simp[f]) (by simp[b]) (by simp[a]) (by simp[S]) (by simp[x]) (by simp[D]) (by simp[]) (by simp)
     rw[if_neg hb]at fin;simp[j,V,Q,b9,L,K,N,O,A,hb,F,G,f,b,a,C,u,E,X,h0,qV,zt,qx];exact fin _ _ (by simp[f]) (by simp[b]) (by simp[a]) (by simp[S]) (by simp[x]) (by simp[D]) (by simp[]) (by simp)
   rw[h2,Z]at fin;have j:¬(k:Int)+1=(l.length:Int)-1:=(by omega);have V:(k:Int)+1-1=(k:Int):=(by omega);have Q:=wr (n:=(k:Int));have S:=wr (n:=(k:Int)+1+1);have L:(k:Int)+1<l.length:=(by omega);have K:¬(k:Int)+1=0:=(by omega);have N:(0:Int)<=(k:Int)+1:=(by omega);have a3:(0:Int)<=(k:Int)+1+1:=(by omega);have O:((k:Int)+1).toNat=k+1:=(by omega);have a4:((k:Int)+1+1).toNat=k+1+1:=(by omega);by_cases hb:y=n-1<;>by_cases w:z=n+1
   . rw[if_pos hb,if_pos w]at fin;simp[j,V,Q,S,L,K,N,a3,O,a4,A,hb,w,hz,F,G,f,b,a,C,u,E,X,W,J,h0,qV,zt,qx];exact fin _ _ (by simp[f]) (by simp[b]) (by simp[a]) (by simp[]) (by simp[x]) (by simp[D]) (by simp[u]) (by simp)
   . rw[if_pos hb,if_neg w]at fin;simp[j,V,Q,S,L,K,N,a3,O,a4,A,hb,w,hz,F,G,f,b,a,C,u,E,X,W,J,h0,qV,zt,qx];exact fin _ _ (by simp[f]) (by simp[b]) (by simp[a]) (by simp[]) (by simp[x]) (by simp[D]) (by simp[]) (by simp)
   . rw[if_neg hb,if_pos w]at fin;simp[j,V,Q,S,L,K,N,a3,O,a4,A,hb,w,hz,F,G,f,b,a,C,u,E,X,W,J,h0,qV,zt,qx];exact fin _ _ (by simp[f]) (by simp[b]) (by simp[a]) (by simp[]) (by simp[x]) (by simp[D]) (by simp[]) (by simp)
   rw[if_neg hb,if_neg w]at fin;simp[j,V,Q,S,L,K,N,a3,O,a4,A,hb,w,hz,F,G,f,b,a,C,u,E,X,W,J,h0,qV,zt,qx];exact fin _ _ (by simp[f]) (by simp[b]) (by simp[a]) (by simp[]) (by simp[x]) (by simp[D]) (by simp[]) (by simp)
 rintro ev ⟨H,T⟩ ⟨f,b,a,C,x,D,u,hσ⟩;obtain⟨rfl,rfl⟩:=(St.mk.injEq _ _ _ _).mp hσ;have hB:qmD l l=zk (jr l):=by rw[<- qpj];rfl
 rw[hB]at u⊢;have b7:jr l≠[]:=fun e=>by
  obtain⟨n,hn⟩:=qDH l h0;obtain⟨r,hr,_⟩:=(YT n l).2 hn;rw[e]at hr;cases hr
 have a9:zk (jr l)≠[]:=fun e=>by
  have h1:=yr (jr l);have h2:=qBA.2 b7;rw[e]at h1;simp at h1;omega
 have e6:(zk (jr l)).length<=2000:=by
  have:=qgS l l;rw[hB]at this;omega
 have d5:=qko s (jr l) b7;have c7:Ql (zk (jr l)).length=((jr l).length+15)/16:=by
  rw[yr];unfold Ql;omega
 generalize d9:jr l=g at *;generalize hU:zT s g=U at *;have d4:=qpd (zk g);have d7:=qzb GG ((zk g).map vW) .none (by simp;omega);rw[qev a9]at u;rw[qaP a9];simp[a,C,u,qV,zt,qx];refine qFH d4 (by simp[kc]) (by simp) ?_;simp;refine qcZ (KS _) (fun _=>True) _ (MkJ s g) (by simp[Go.Abs.ev]) d7 (fun _ _ _=>trivial) ?_ ?_ ?_
 . exact⟨1,_,_,_,_,rfl,qoc 0,fun _=>rfl,fun h=>absurd rfl h⟩
 . rintro i v ⟨H,T⟩ hi ⟨o,c1,c2,c3,t,hH,Y,b8,a6⟩;subst hH;have d0:i<Ql ((zk g).map vW).length:=by
    have:=(qBk.1 hi).1;simpa using this
   have hv:v=.sl 4 ((zk ((g.drop (16*i)).take 16)).map vW) .none:=by
    rw[qBO]at hi;obtain⟨k,M,e⟩:=qBu.1 hi;obtain⟨_,M⟩:=qBk.1 M;rw[List.getElem_range]at M;subst M;rw[<- e,qhX]
   subst hv;have hP:qsr s g (i+1)=if i=0 then kA s ((g.drop (16*i)).take 16) else orE (qsr s g i) (kA s ((g.drop (16*i)).take 16)):=rfl
   have c5:((zk ((g.drop (16*i)).take 16)).map vW).length<=32:=by
    rw[qBT,yr,qBY];omega
   have d2:zk ((g.drop (16*i)).take 16)≠[]:=fun e=>by
    have h1:=yr ((g.drop (16*i)).take 16);rw[e,qBY,qCj]at h1;have h2:=d0;rw[qBT,yr]at h2;unfold Ql at h2;simp at h1;omega
   generalize (g.drop (16*i)).take 16=P at *;have b6:=fun tok=>qod s P tok
   have a8:=d2;have c0:1+(zk P).length<=549755813888:=(by rw[qBT]at c5;omega);by_cases a0:i=0
   . have ho:=b8 a0;subst ho;simp[x,qV,zt,qx,qm,qR,c0,a8];refine⟨23,_,_,_,_,rfl,?_,fun h=>absurd h (by omega),fun _=>by omega⟩;rw[hP,if_pos a0,a0];exact b6 _
   have ho:=a6 a0;rw[if_neg a0]at hP;simp[-qL,ZJ Y.atoms,ho,x,qV,zt,qx,qm,qR,c0,a8];refine⟨20,_,_,_,_,rfl,?_,fun h=>absurd h (by omega),fun _=>by omega⟩;rw[hP];exact qeC Y ((b6 _).mono (by omega))
 rintro⟨H,T⟩ ⟨o,c1,c2,c3,t,hH,Y,b8,a6⟩;subst hH;have c8:(List.map (fun k=>AV.sl 4 (W5 (List.map vW (zk g)) k) Abs.Tok.none) (List.range (Ql (List.map vW (zk g)).length))).length=(g.length+15)/16:=by
  rw[qBT,qDX,qBT,c7]
 rw[c8,d5]at Y;simp[-qL,ZJ Y.atoms,D];have c6:(g.length+15)/16<=7:=by omega
 generalize (g.length+15)/16=k at *;generalize [AV.int .i64 o,c1,c2,c3]=c at *;generalize (Blk.cells [AV.str s]::_:List Blk)=HH;exact Y.agg c6 _ trivial
def eqX(s:Str)(n:Int):Ex:=.mk 15 0 [] [wO s,z8 n]
def amE(s:Str):Nat->List Int->Ex
 |0,_=>z8 0
 |k+1,l=>if l.length<=1 then(match l with|[]=>z8 0|n::_=>eqX s n) else orE (amE s k (l.take (l.length/2))) (amE s k (l.drop (l.length/2)))
def qtK(s:Str)(l:List Int):Ex:=if l.length<=20 then amE s 9 l else zT s (jr l)
def qvd(s n):Pure prog GG 104 [.str s,.int .i64 n] (.agg (qo (eqX s n))):=by
 refine qFD func104 ?_;rw[qd];simp[eqX,qV,zt,qx,Leq,zl];exact yQ (.inr ⟨qaC s,z0 _⟩) (yQ (.inr ⟨qaD n,z0 _⟩) YZ)
def qbz(s):∀(k j) (l:List Int),j<k->l.length<=2^j->Fits l->Pure prog GG 62 [.str s,.sl 1 (l.map qf) .none] (.agg (qo (amE s k l)))
 |0,j,l,h,_,_=>by omega
 | k+1,j,l,F,c,e=>by
  refine qFD func62 ?_;have d:=e;unfold Fits at d
  match l,c,e,d with
  | [],_,_,_=>
   rw[show amE s (k+1) []=z8 0 from rfl,qd];simp[z8,qV,zt,qx,Leq,zl]
  | [n],_,_,_=>
   rw[show amE s (k+1) [n]=eqX s n from rfl];have h1:=qvd s n;have D:qM ((eqX s n).args.map qo)=true:=zj (fun x=>qiX x) _;rw[qd]at h1⊢;generalize (eqX s n).args.map qo=W at *;simp;refine qFG h1 ?_;simp[D]
  | a::b::t,c,e,d=>
   have E:j≠0:=(by rintro rfl;simp at c);obtain⟨j,rfl⟩:∃i,j=i+1:=⟨j-1,by omega⟩;have J:2<=(a::b::t).length:=(by simp);have u:a::b::t≠[]:=(by simp);have g:amE s (k+1) (a::b::t)=orE (amE s k ((a::b::t).take ((a::b::t).length/2))) (amE s k ((a::b::t).drop ((a::b::t).length/2))):=if_neg (by omega);rw[g];generalize a::b::t=l at *;have G:l.length<=2*2^j:=(by rw[qDA]at c;omega);have h1:=qbz s k j (l.take (l.length/2)) (by omega) (by rw[qBY];omega) (by unfold Fits;rw[qBY];omega);have h2:=qbz s k j (l.drop (l.length/2)) (by omega) (by rw[qCj];omega) (by unfold Fits;rw[qCj];omega);generalize amE s k (l.take (l.length/2))=x at *;generalize amE s k (l.drop (l.length/2))=y at *;have B:(l.length:Int).tdiv 2=((l.length/2:Nat):Int):=(by rw[qCT (by omega)];omega);have w:=wr (n:=((l.length/2:Nat):Int));have n0:¬(l.length:Int)=0:=(by omega);have n1:¬(l.length:Int)=1:=(by omega);have I:((l.length/2:Nat):Int)<=l.length:=(by omega);have f:l.length/2<=l.length:=(by omega);generalize l.length/2=m at *;have C:zm (.sl 1 (l.map qf) .none) none (some (.int .i64 m)) none=some (.sl 1 ((l.take m).map qf) .none):=(by simp[zm,zM,yp,zH,f]);have o:zm (.sl 1 (l.map qf) .none) (some (.int .i64 m)) none none=some (.sl 1 ((l.drop m).map qf) .none):=(by simp[zm,zM,yp,zH,f,show(l.map qf).take l.length=l.map qf from qBr (by simp)]);generalize l.take m=K at *;generalize l.drop m=L at *;simp[u,n1,B,w,C];refine qFG h1 ?_;simp[o];refine qFG h2 ?_;have A:=qiX x;have v:=qiX y;rw[qd (orE x y)];have r:=jq x;have c:=zg x;have hb:=jq y;have z:=zg y;simp[-qL,r,c,hb,z,A,v,orE,qV,zt,qx,Leq,zl]
abbrev enT:Str ⊕ Int->List AV:=Sum.elim qdN vW
def WG(x):(enT x).length=4:=by cases x<;>rfl
def vN(s:Str)(P:List Rg):List (Str ⊕ Int):=.inl s::(zk P).map .inr
def jX(s P):(vN s P).length=1+2*P.length:=by simp[vN,yr];omega
def qg2(s P)(n m:Int):vN s P++[.inr n]++[.inr m]=vN s (P++[(n,m)]):=by simp[vN,zk]
def qmg(s P):(vN s P).map enT=qdN s::(zk P).map vW:=by simp[vN]
abbrev enI(x:Nat×Nat):List AV:=[.int .i64 23,.int .i64 0,.str [],.ms x.1 0 x.2 4]
def qmx(b:Nat)(H:List Blk)(A:AV)(L:List (Str ⊕ Int)):Prop:=(∃x,L=[x]/\A=.sl 4 [enT x] .tight)\/ja b 4 enT H A L
def qqD{H:List Blk}{T b A L}(h:qmx b H A L)(h0:L≠[])(g:L.length<=1000)(n:Int):
 ∃H',qY (Dof prog) ⟨H,T⟩ 23 23 A (.sl 4 [vW n] .tight)=some (.ms H.length 0 (L.length+1) 4,⟨H',T⟩)/\H'[H.length]?=some (.cells ((L++[Sum.inr n]).flatMap enT))/\(∀k x,H[k]?=some x->k≠b->H'[k]?=some x)/\H'.length=H.length+1:=by
 rcases h with⟨x,rfl,rfl⟩|h
 . refine⟨H++[.cells (enT x++vW n)],by simp[qY,zD,Zl,D23,D61,qP],by simp,fun k y a _=>qa a _,by simp⟩
 obtain⟨v',H',h1,h2,e,f⟩:=h.append (D:=Dof prog) (T:=T) (m:=[Sum.inr n]) (tok:=.tight) D23 rfl D61 rfl (by decide) rfl (by decide) WG (by simp;omega) (by simp);obtain⟨c,d⟩:=h2.at (by simp);subst c;exact⟨H',by simpa using h1,d,fun k x a hb=>e k x a (.inr hb),f⟩
def Chk(s:Str)(H:List Blk)(bs:List (Nat×Nat))(pre:List (List Rg))(B:Nat):Prop:=bs.length=pre.length/\∀(i:Nat) (x:Nat×Nat) (Q:List Rg),bs[i]?=some x->pre[i]?=some Q->2<x.1/\x.1<B/\x.2=1+2*Q.length/\H[x.1]?=some (.cells ((vN s Q).flatMap enT))
def Chk.keep{s H H' bs pre B B'}(h:Chk s H bs pre B)(f:B<=B')(e:∀k x,H[k]?=some x->2<k->k<B->H'[k]?=some x):Chk s H' bs pre B' :=
 ⟨h.1,fun i x Q h1 h2=>by
  obtain⟨a,b,c,d⟩:=h.2 i x Q h1 h2;exact⟨a,by omega,c,e _ _ d a b⟩⟩
def Chk.add{s H bs pre B x Q}(h:Chk s H bs pre B)(h1:2<x.1)(h2:x.1<B)(c:x.2=1+2*Q.length)(e:H[x.1]?=some (.cells ((vN s Q).flatMap enT))):Chk s H (bs++[x]) (pre++[Q]) B :=
 ⟨by simp[h.1],fun i y R a b=>by
  by_cases hi:i<bs.length
  . rw[qBv hi]at a;rw[qBv (by rw[<- h.1];exact hi)]at b;exact h.2 i y R a b
  have:=(qBk.1 a).1;have d:i=bs.length:=by simp at this;omega
  subst d;rw[qBt (qBs _),qCh]at a;rw[qBt (by rw[h.1];exact qBs _),h.1,qCh]at b;simp at a b;subst a b;exact⟨h1,h2,c,e⟩⟩
structure PtS(s:Str)(pre:List (List Rg))(P:List Rg)(bs:List (Nat×Nat))(bo b:Nat)(A O:AV)(H:List Blk):Prop where
 c0:H[0]?=some (.cells [.int .i64 0,.int .i64 0,.str [],.sl 0 [] .nil])
 c1:H[1]?=some (.cells (qdN s))
 c2:H[2]?=some (.cells [.int .i64 23,.int .i64 0,.str [],A])
 full:∀x∈pre,x.length=16
 own:ja bo 4 enI H O bs
 lo:2<bo
 lt:bo<b
 le:bo<=H.length
 chk:Chk s H bs pre bo
 arg:qmx b H A (vN s P)
def PtH(s:Str)(d:List Int)(O:AV)(H:List Blk):Prop :=
 ∃pre P bs bo b A,PtS s pre P bs bo b A O H/\jr d=pre.flatten++P/\P.length<=16/\(P=[]->d=[])/\bs.length<=d.length/\(P≠[]->ja b 4 enT H A (vN s P))
def PtJ(s:Str)(l d:List Int)(ev:Env)(σ:St):Prop :=
 ev 0=.str s/\ev 1=.sl 1 (l.map qf) .none/\ev 4=.ptr 0 0/\ev 5=.ptr 1 0/\ev 7=.ptr 2 0/\ev 8=.int .i64 d.length/\PtH s d (ev 6) σ.H
def qmx.len{b H A s P}(h:qmx b H A (vN s P))(σ):Yk (Dof prog) σ 23 A=some (.int .i64 (1+2*P.length:Nat)):=by
 have a:=jX s P;rcases h with⟨x,h1,rfl⟩|⟨h,_⟩|⟨_,rfl,_⟩
 . rw[h1]at a;rw[<- a];simp[D23]
 . simp[vN]at h
 rw[a];simp[D23]
def qfR(d:List Int)(n:Int):jr (d++[n])=kV (jr d) n:=by unfold jr;rw[qCb];rfl
def qnt(d:List Int)(n:Int):∃q lo,jr (d++[n])=q++[(lo,n)]:=by
 rw[qfR];unfold kV;split
 . split
   . exact⟨_,_,rfl⟩
   . exact⟨jr d,n,rfl⟩
 exact⟨jr d,n,rfl⟩
def qwq{H:List Blk}{T b A s P}(h:qmx b H A (vN s P))(w:P.length<=400)(n:Int){c}(l:H[2]?=some c)(hb:2<b):
 ∃ H' a,qY (Dof prog) ⟨H,T⟩ 23 23 A (.sl 4 [vW n] .tight)=some (.ms H.length 0 (2+2*P.length) 4,⟨H',T⟩)/\H'[2]?=some c /\
  qY (Dof prog) ⟨H'.set 2 (.cells [.int .i64 23,.int .i64 0,.str [],.ms H.length 0 (2+2*P.length) 4]),T⟩ 23 23 (.ms H.length 0 (2+2*P.length) 4) (.sl 4 [vW n] .tight)=some (.ms (H.length+1) 0 (3+2*P.length) 4,⟨a,T⟩) /\
  a[2]?=some (.cells [.int .i64 23,.int .i64 0,.str [],.ms H.length 0 (2+2*P.length) 4])/\ja (H.length+1) 4 enT a (.ms (H.length+1) 0 (3+2*P.length) 4) (vN s (P++[(n,n)]))/\(∀k x,H[k]?=some x->k≠b->k≠2->a[k]?=some x)/\a.length=H.length+2:=by
 have e:=jX s P;have z:=(qBk.1 l).1;obtain⟨H',j,r,i,f⟩:=qqD (T:=T) h (by unfold vN;simp) (by omega) n;have m:(vN s P).length+1=2+2*P.length:=by omega
 rw[m]at j;have v:=i 2 c l (by omega);have g:∀k y,k≠2->(H'.set 2 y)[k]?=H'[k]?:=fun k y d=>qBn (Ne.symm d)
 have t:ja H.length 4 enT (H'.set 2 (.cells [.int .i64 23,.int .i64 0,.str [],.ms H.length 0 (2+2*P.length) 4])) (.ms H.length 0 (2+2*P.length) 4) (vN s P++[.inr n]):=by
  refine .inr ⟨by simp,by simp[e];omega,?_⟩;rw[g _ _ (by omega)];exact r
 obtain⟨a,b1,b2,b3,b4⟩:=qqD (T:=T) (.inr t) (by simp) (by simp[e];omega) n;have o:(vN s P++[Sum.inr n]).length+1=3+2*P.length:=by simp[e];omega
 rw[o,qCO,f]at b1;rw[qCO,f,qg2]at b2;rw[qCO,f]at b4;refine⟨H',a,j,v,b1,b3 2 _ (qBo (by omega)) (by omega),.inr ⟨by simp[vN],by simp[jX];omega,b2⟩,fun k x d k1 u=>?_,by omega⟩;have B:=(qBk.1 d).1;exact b3 k x (by rw[g _ _ u];exact i k x d k1) (by omega)
def PtS.new{s pre P bs bo b A O H d n}(h:PtS s pre P bs bo b A O H)(B:P.length<16)(g:bs.length<=d.length+1)(t:jr (d++[n])=pre.flatten++(P++[(n,n)]))(T):
 ∃ H' a,qY (Dof prog) ⟨H,T⟩ 23 23 A (.sl 4 [vW n] .tight)=some (.ms H.length 0 (2+2*P.length) 4,⟨H',T⟩)/\H'[2]?=some (.cells [.int .i64 23,.int .i64 0,.str [],A]) /\
  qY (Dof prog) ⟨H'.set 2 (.cells [.int .i64 23,.int .i64 0,.str [],.ms H.length 0 (2+2*P.length) 4]),T⟩ 23 23 (.ms H.length 0 (2+2*P.length) 4) (.sl 4 [vW n] .tight)=some (.ms (H.length+1) 0 (3+2*P.length) 4,⟨a,T⟩) /\
  a[2]?=some (.cells [.int .i64 23,.int .i64 0,.str [],.ms H.length 0 (2+2*P.length) 4])/\PtH s (d++[n]) O (a.set 2 (.cells [.int .i64 23,.int .i64 0,.str [],.ms (H.length+1) 0 (3+2*P.length) 4])):=by
 obtain⟨H',a,l,u,j,v,f,r,E⟩:=qwq (T:=T) h.arg (by omega) n h.c2 (by have:=h.lo;have:=h.lt;omega);have o:=h.lo;have w:=h.lt;have C:=h.le;have D:=(qBk.1 h.c2).1;refine⟨H',a,l,u,j,v,pre,P++[(n,n)],bs,bo,H.length+1,.ms (H.length+1) 0 (3+2*P.length) 4,?_,t,by simp;omega,by simp,by simpa using g,fun _=>?_⟩
 . have e:∀k y z,k≠2->k≠b->H[k]?=some z->(a.set 2 y)[k]?=some z:=fun k y z h1 h2 i=>by rw[qBn (Ne.symm h1)];exact r k z i h2 h1
   refine⟨e 0 _ _ (by omega) (by omega) h.c0,e 1 _ _ (by omega) (by omega) h.c1,qBo (by omega),h.full,h.own.keep fun x _ c=>e bo _ _ (by omega) (by omega) c,o,by omega,by simp;omega,h.chk.keep (qBs _) fun k x m h1 h2=>e k _ _ (by omega) (by omega) m,.inr ?_⟩;exact f.keep fun x _ c=>by rw[qBn (by omega)];exact c
 exact f.keep fun x _ c=>by rw[qBn (by omega)];exact c
def PtS.ext{s pre P bs bo b A O H d n lo hi}(h:PtS s pre (P++[(lo,hi)]) bs bo b A O H)(u:(P++[(lo,hi)]).length<=16)(f:bs.length<=d.length)(t:ja b 4 enT H A (vN s (P++[(lo,hi)])))(w:jr (d++[n])=pre.flatten++(P++[(lo,n)])):
 A=.ms b 0 (3+2*P.length) 4/\∃c,H[b]?=some (.cells c)/\c.length=(3+2*P.length)*4/\PtH s (d++[n]) O (H.set b (.cells (c.set ((2+2*P.length)*4+1) (.int .i64 n)))):=by
 have v:=h.lo;have r:=h.lt;have B:=h.le;obtain⟨g,m⟩:=t.at (by simp[vN]);have f:=(qBk.1 m).1;have l:∀x,vN s (P++[(lo,x)])=vN s P++[.inr lo]++[.inr x]:=fun x=>(qg2 s P lo x).symm
 have z:((vN s P++[Sum.inr lo]).flatMap enT).length=(2+2*P.length)*4:=by
  rw[Go.Abs.zZ (sz:=4) WG,qBp,jX];simp;omega
 have j:((vN s (P++[(lo,hi)])).flatMap enT).set ((2+2*P.length)*4+1) (.int .i64 n)=(vN s (P++[(lo,n)])).flatMap enT:=by
  have e:∀x,(vN s P++[Sum.inr lo]++[Sum.inr x]).flatMap enT=(vN s P++[Sum.inr lo]).flatMap enT++vW x:=fun x=>by rw[List.flatMap_append];simp
  rw[l,l,e,e,qCd _ _ (by omega),z,qCt];rfl
 refine⟨by rw[g,jX];simp;omega,_,m,by rw[Go.Abs.zZ (sz:=4) WG,jX];simp;omega,pre,P++[(lo,n)],bs,bo,b,A,?_,w,by simpa using u,by simp,by simp;omega,fun _=>?_⟩
 . have a:∀k y,k≠b->(H.set b y)[k]?=H[k]?:=fun k y i=>qBn (Ne.symm i)
   refine⟨by rw[a _ _ (by omega)];exact h.c0,by rw[a _ _ (by omega)];exact h.c1,by rw[a _ _ (by omega)];exact h.c2,h.full,h.own.keep fun x _ o=>by rw[a _ _ (by omega)];exact o,v,r,by simp;omega,h.chk.keep (qBs _) fun k x i h1 h2=>by rw[a _ _ (by omega)];exact i,.inr ?_⟩;exact .inr ⟨by simp[vN],by rw[g,jX,jX];simp,by rw[qBo f,j]⟩
 exact .inr ⟨by simp[vN],by rw[g,jX,jX];simp,by rw[qBo f,j]⟩
def PtS.done{s pre P bs bo b A O H}(h:PtS s pre P bs bo b A O H)(d:P.length=16)(o:ja b 4 enT H A (vN s P))(T)(F:bs.length<=1000):
 A=.ms b 0 33 4/\∃v' H',qY (Dof prog) ⟨H,T⟩ 23 23 O (.sl 4 [enI (b,33)] .tight)=some (v',⟨H',T⟩)/\H'[1]?=some (.cells (qdN s))/\H'[2]?=some (.cells [.int .i64 23,.int .i64 0,.str [],A]) /\
  PtS s (pre++[P]) [] (bs++[(b,33)]) H.length (H.length+1) (.sl 4 [qdN s] .tight) v' (H'.set 2 (.cells [.int .i64 23,.int .i64 0,.str [],.sl 4 [qdN s] .tight])):=by
 have C:=h.lo;have w:=h.lt;have B:=h.le;obtain⟨j,f⟩:=o.at (by simp[vN]);have i:=(qBk.1 f).1;obtain⟨v',H',t,v,e,E⟩:=h.own.append (D:=Dof prog) (T:=T) (m:=[(b,33)]) (tok:=.tight) D23 rfl D61 rfl (by decide) rfl (by decide) (fun _=>rfl) (by simp;omega) (by simp);have k1:=e 1 _ h.c1 (.inr (by omega));have g:=e 2 _ h.c2 (.inr (by omega));have r:=(qBk.1 g).1;have c:∀k y z,k≠2->k≠bo->H[k]?=some z->(H'.set 2 y)[k]?=some z:=fun k y z h1 h2 l=>by rw[qBn (Ne.symm h1)];exact e k z l (.inr h2)
 refine⟨by rw[j,jX,d],v',H',by simpa using t,k1,g,c 0 _ _ (by omega) (by omega) h.c0,c 1 _ _ (by omega) (by omega) h.c1,qBo r,fun x a=>?_,v.keep fun x _ a=>by rw[qBn (by omega)];exact a,by omega,by omega,by simp;omega,?_,.inl ⟨_,rfl,rfl⟩⟩
 . rcases qBC.1 a with a|a
   . exact h.full x a
   . rw[qB0.1 a];exact d
 refine(h.chk.keep (by omega) fun k x u h1 h2=>c k _ _ (by omega) (by omega) u).add (by dsimp only;omega) i (by rw[d]) (c b _ _ (by omega) (by omega) f)
def qkE(s){x:Nat×Nat}{Q:List Rg}(a:x.2=1+2*Q.length):NearK 1 (enI x) (kA s Q) (fun H=>H[x.1]?=some (.cells ((vN s Q).flatMap enT))):=by
 obtain⟨b,n⟩:=x;dsimp only at a;subst a;refine⟨rfl,rfl,fun H h j l=>?_⟩;obtain⟨j,rfl⟩:∃i,j=i+1:=⟨j-1,by omega⟩;have c:ww 4 (1+2*Q.length) (((vN s Q).flatMap enT).drop 0)=qdN s::(zk Q).map vW:=by
  have:=Go.Abs.vg (sz:=4) WG (vN s Q) [];rw[jX,qmg]at this;simpa using this
 have g:qM (qdN s::(zk Q).map vW)=true:=by simp[kc]
 have d:=Go.Abs.zZ (sz:=4) WG (vN s Q);rw[jX]at d;have e:Abs.frz H (j+1) (.ms b 0 (1+2*Q.length) 4)=.sl 4 (qdN s::(zk Q).map vW) .none:=by
  rw[Abs.frz];simp only[qE,qBP,if_false,h,c,kI g];rw[if_pos ⟨by omega,by simp[qBx]⟩]
 have f:(enI (b,1+2*Q.length)).map (Abs.frz H (j+1))=[.int .i64 23,.int .i64 0,.str [],.sl 4 (qdN s::(zk Q).map vW) .none]:=by
  simp only[qBz,qBS,wL,qa9,e]
 rw[f];refine⟨?_,by simp[kc],by simp⟩;rw[qd];simp only[zl,Leq,and_true,true_and,kA,qFy,qFz,qFA,qFB];exact .inr ⟨qgq s Q,.inl trivial⟩
def NearK.imp{k c Y S a}(h:NearK k c Y S)(d:∀H,a H->S H):NearK k c Y a:=⟨h.len,h.atoms,fun H b=>h.fz H (d H b)⟩
def VJ{α:Type}{n}(g:0<n):∀(pre:List (List α)) (P:List α) (k),(∀x∈pre,x.length=n)->P≠[]->P.length<=n->(pre.flatten++P).length<=k->zR n k (pre.flatten++P)=pre++[P]
 | [],P,k,_,h0,b,a=>by
  have f:=qBA.2 h0;simp only[List.flatten_nil,qBL]at a⊢;obtain⟨k,rfl⟩:∃i,k=i+1:=⟨k-1,by omega⟩;unfold zR;rw[if_neg h0,qBr b,qBZ b]
  cases k with
  |zero=>rfl
  |succ k=>unfold zR;rw[if_pos rfl]
 | x::pre,P,k,c,h0,b,a=>by
  have h1:=c x (by simp);have f:=qBA.2 h0;rw[qB7,qBX]at a⊢;rw[qBp]at a;obtain⟨k,rfl⟩:∃i,k=i+1:=⟨k-1,by omega⟩;unfold zR;rw[if_neg (fun e=>by rw[qFb]at e;rw[e.1]at h1;simp at h1;omega),qCv (by omega),qBr (by omega),qCJ (by omega),qBZ (by omega),qBL,VJ g pre P k (fun y d=>c y (by simp[d])) h0 b (by omega)];rfl
def V3{n:Nat}{α:Type}:∀{l:List (List α)},(∀x∈l,x.length=n)->l.flatten.length=n*l.length
 |[],_=>rfl
 |x::r,h=>by rw[qB7,qBp,V3 fun y a=>h y (by simp[a]),h x (by simp),qBB,Nat.mul_succ];omega
def qhx(s){pre:List (List Rg)}{P Q C}(a:∀x∈pre,x.length=16)(h0:P≠[])(c:P.length<=16)(d:pre++[P]=Q::C):zT s (pre.flatten++P)=yY s (kA s Q) C:=by
 have h1:=VJ (n:=16) (by omega) pre P ((pre.flatten++P).length+1) a h0 c (by omega);rw[d]at h1;unfold zR at h1;rw[if_neg (by simp[h0])]at h1;obtain⟨h2,b⟩:=List.cons.inj h1;unfold zT;rw[if_neg (by simp[h0]),h2,b]
def qn1:List (Nat×Sch×List Nat):=[(8,.step 0 [12,11,10,1] (.step 1 [12,11,10] (.step 2 [12,11,10,5,4,3] (.step 3 [12,11,10,5,4] (.step 4 [12,11,10,5] (.step 5 [12,11,10] (.step 6 [12,11,10,9,8] (.step 7 [12,11,10,9,8] (.step 8 [12,11,10,9] (.step 9 [12,11,10] (.step 10 [12,11] (.step 11 [12] (.step 12 [] (.done))))))))))))),[]),(12,.step 0 [10,9,8,1] (.step 1 [10,9,8] (.step 2 [10,9,8,7,6,5,4] (.step 3 [10,9,8,7,6,5,4] (.step 4 [10,9,8,7,6,5] (.step 5 [10,9,8,7,6] (.step 6 [10,9,8,7] (.step 7 [10,9,8] (.step 8 [10,9] (.step 9 [10] (.step 10 [] (.done))))))))))),[]),(13,.step 0 [10,9,8,1] (.step 1 [10,9,8] (.step 2 [10,9,8,7,6,5,4] (.step 3 [10,9,8,7,6,5,4] (.step 4 [10,9,8,7,6,5] (.step 5 [10,9,8,7,6] (.step 6 [10,9,8,7] (.step 7 [10,9,8] (.step 8 [10,9] (.step 9 [10] (.step 10 [] (.done))))))))))),[]),(19,.step 0 [7,6,5] (.step 1 [7,6,5,4,3] (.step 2 [7,6,5,4,3] (.step 3 [7,6,5,4] (.step 4 [7,6,5] (.step 5 [7,6] (.step 6 [7] (.step 7 [] (.done)))))))),[])]
def qn4(s:Str)(l:List Int)(h0:l≠[])(hl:l.length<=1000)(hr:∀n∈l,0<=n/\n<=65535)(i4:(jr l).length<=96):Pure prog GG 63 [.str s,.sl 1 (l.map qf) .none] (.agg (qo (zT s (jr l)))):=by
 refine qFC ⟨true,qn1,[],[]⟩ true func63 ?_;have w1:IntKind.i64.wrap 1=1:=wr;simp[qV,zt,qx];refine qFW l (fun d ev σ=>PtJ s l d ev σ) ?_ ?_ ?_
 . exact⟨by simp,by simp,by simp,by simp,by simp,by simp,[],[],[],3,4,.sl 4 [qdN s] .tight,⟨by simp,by simp,by simp,by simp,.inl ⟨rfl,by simp⟩,by omega,by omega,by simp,⟨rfl,by simp⟩,.inl ⟨_,rfl,rfl⟩⟩,rfl,by simp,fun _=>rfl,by simp,fun h=>absurd rfl h⟩
 . rintro d n r ev ⟨H,T⟩ R hR hd t d9 ⟨e0,f,v,N,j,g,pre,P,bs,bo,b,A,a,W,hP,b6,d0,u⟩;dsimp only at a u;have g6:=hr n (qBl t);have X:=wr (n:=(d.length:Int)+1);have f2:(d.length:Int)<l.length:=(by omega);have b2:=fun σ=>a.arg.len σ
   have i1:∀σ,Yk (Dof prog) σ 36 (.sl 1 (l.map qf) .none)=some (.int .i64 l.length):=fun σ=>by simp
   have c1:=a.c1;have c2:=a.c2;have h8:=(qBk.1 c1).1;have e2:=(qBk.1 c2).1;obtain⟨O,J⟩:∃O,O=ev 6:=⟨_,rfl⟩;rw[<- J]at a;have fin:∀y T' H',y 0=.str s->y 1=.sl 1 (l.map qf) .none->y 4=.ptr 0 0->y 5=.ptr 1 0->y 7=.ptr 2 0->y 8=.int .i64 ((d.length:Int)+1)->PtH s (d++[n]) (y 6) H'->R y ⟨H',T'⟩:=fun y T' H' b0 b1 b4 b5 b7 b8 h=>hR _ _ ⟨b0,b1,b4,b5,b7,by rw[b8];simp,h⟩
   have d4:=qfR d n;rcases List.eq_nil_or_concat d with rfl|⟨d',m,c8⟩
   . obtain⟨f1,rfl⟩:pre.flatten=[]/\P=[]:=qFb.1 W.symm;obtain⟨H',d6,E,U,a3,a4,Z⟩:=a.new (n:=n) (d:=[]) (by simp) (by omega) (by rw[d4,f1];rfl) T;simp at E a3 a4 Z t;have a9:=(qBk.1 U).1;have f8:=(qBk.1 a4).1;have lp:=qBA.2 h0;simp[f,g,lp];rw[wd (by rfl)];simp[-Yk,j,g,c2,b2];rw[qG rfl];simp[-getElem?_pos,qX,f,j,g,t,c2,E,U,a9,w1,lp];rw[qG rfl];simp[-getElem?_pos,qX,f,j,g,t,a9,a3,a4,f8,w1,lp];exact fin _ _ _ (by simp[e0]) (by simp[f]) (by simp[v]) (by simp[N]) (by simp[j]) (by simp) (by simp[<- J];exact Z)
   rw[List.concat_eq_append]at c8;subst c8;have M:P≠[]:=fun e=>by have:=b6 e;simp at this
   have u:=u M;have a7:l[d'.length]?=some m:=(by rw[hd];simp);have h5:=hr m (qBl a7);obtain⟨q,lo,hq⟩:=qnt d' m;obtain⟨P,x,rfl⟩:∃P' x,P=P'++[x]:=⟨P.dropLast,P.getLast M,(qCa M).symm⟩;have c4:(jr (d'++[m])).getLast?=some x:=(by rw[W,<- qBX];simp);obtain rfl:x=(lo,m):=by rw[hq]at c4;simpa using c4.symm
   have Y:jr (d'++[m]++[n])=if m=n-1 then pre.flatten++(P++[(lo,n)]) else pre.flatten++(P++[(lo,m)]++[(n,n)]):=by
    rw[d4];unfold kV;rw[c4];dsimp only;rw[W];split
    . rw[<- qBX,qC4,qBX]
    rw[qBX]
   have f0:(d'++[m]).length=d'.length+1:=(by simp);rw[f0]at g f2 t fin;have f5:bs.length<=1000:=(by omega);generalize hk:d'.length=k at *;have X:=wr (n:=(k:Int)+1+1);have wk:=wr (n:=(k:Int));have wm:=wr (n:=m+1);have kp:(0:Int)<(k:Int)+1:=(by omega);have kl:(k:Int)<l.length:=(by omega);have gk:(k:Int)+1-1=(k:Int):=(by omega);have I:((k:Int)+1).toNat=k+1:=(by omega);have G:(0:Int)<=(k:Int)+1:=(by omega);have w:(k:Int)+1<l.length:=(by omega);by_cases hc:n=m+1
   . rw[if_pos (by omega)]at Y;obtain⟨c5,c,hb,h7,e3⟩:=a.ext hP d0 u Y;simp[f,g,w];rw[wd (by rfl)];simp[f,g,w,kp,kl,gk,wk,wm,t,a7,hc,I,G];subst c5;have h9:P.length<16:=(by simp at hP;omega);rw[qG rfl];have wl:=wr (n:=2+2*(P.length:Int));have gl:3+2*(P.length:Int)-1=2+2*(P.length:Int):=(by omega);have g0:(0:Int)<=2+2*(P.length:Int):=(by omega);have V:2+2*(P.length:Int)<3+2*(P.length:Int):=(by omega);have gt:(2+2*(P.length:Int)).toNat=2+2*P.length:=(by omega);have gc:(2+2*P.length)*4+1+1<=c.length:=(by omega);simp[-getElem?_pos,qX,f,j,g,c2,t,w,I,G,wl,gl,g0,V,gt,hb,gc,X];exact fin _ _ _ (by simp[e0]) (by simp[f]) (by simp[v]) (by simp[N]) (by simp[j]) (by simp) (by simpa[<- J] using e3)
   rw[if_neg (by omega)]at Y;have d1:¬n=m+1:=hc;simp[f,g,w];rw[wd (by rfl)];by_cases hf:(P++[(lo,m)]).length=16
   . obtain⟨c5,v',H0,a0,E,U,d7⟩:=a.done hf u T f5;subst c5;rw[<- qB4 (P++[(lo,m)]),qBX,qB4,<- qBX]at Y;obtain⟨H',d6,V,g2,g3,L,g5⟩:=d7.new (n:=n) (d:=d'++[m]) (by simp) (by simp;omega) (by rw[Y];simp) T;simp at a0 E V g3 L g5;have a9:=(qBk.1 U).1;have h4:=(qBk.1 E).1;have a6:=(qBk.1 g2).1;have c7:=(qBk.1 L).1;have s0:=d7.c2;simp[-getElem?_pos,f,N,j,g,w,kp,kl,gk,wk,wm,t,a7,d1,I,G,c2,<- J,a0,E,U,a9];rw[qG rfl];simp[-getElem?_pos,qX,f,j,g,w,t,I,G,s0,V,g2,a6];rw[qG rfl];simp[-getElem?_pos,qX,f,j,g,w,t,I,G,a6,g3,L,c7,X];exact fin _ _ _ (by simp[e0]) (by simp[f]) (by simp[v]) (by simp[N]) (by simp[j]) (by simp) (by simpa using g5)
   obtain⟨H',d6,V,g2,g3,L,g5⟩:=a.new (n:=n) (d:=d'++[m]) (by omega) (by simp;omega) Y T;simp at V g3 L g5 hf;have b2:=fun σ=>(b2 σ).trans (show _=some (AV.int .i64 (1+2*((P.length:Int)+1))) by simp)
   have a6:=(qBk.1 g2).1;have c7:=(qBk.1 L).1;have f3:¬(1+2*((P.length:Int)+1))=33:=(by omega);simp[-Yk,-getElem?_pos,f,N,j,g,w,kp,kl,gk,wk,wm,t,a7,d1,I,G,c2,b2,f3];rw[qG rfl];simp[-getElem?_pos,qX,f,j,g,w,t,I,G,c2,V,g2,a6];rw[qG rfl];simp[-getElem?_pos,qX,f,j,g,w,t,I,G,a6,g3,L,c7,X];exact fin _ _ _ (by simp[e0]) (by simp[f]) (by simp[v]) (by simp[N]) (by simp[j]) (by simp) (by simpa[<- J] using g5)
 rintro ev ⟨H,T⟩ ⟨e0,f,v,N,j,g,pre,P,bs,bo,b,A,a,W,hP,b6,d0,u⟩;dsimp only at a u;have M:P≠[]:=fun e=>h0 (b6 e)
 have u:=u M;have c2:=a.c2;have e2:=(qBk.1 c2).1;have g9:=a.lo;have d9:=a.lt;have g7:=a.le;obtain⟨d5,d8⟩:=u.at (by simp[vN]);rw[jX]at d5;subst d5;have f7:=(qBk.1 d8).1;obtain⟨O,J⟩:∃O,O=ev 6:=⟨_,rfl⟩;have d3:=a.own;rw[<- J]at d3;obtain⟨v',H',E,U,a3,a4⟩:=d3.append (D:=Dof prog) (T:=T) (m:=[(b,1+2*P.length)]) (tok:=.tight) D23 rfl D61 rfl (by decide) rfl (by decide) (fun _=>rfl) (by simp;omega) (by simp);obtain⟨rfl,Z⟩:=U.at (by simp);have hk:∀k z,H[k]?=some z->k≠bo->H'[k]?=some z:=fun k z h1 h2=>a3 k z h1 (.inr h2)
 have c6:=(a.chk.keep (H':=H') (B':=H.length) (by omega) fun k x h1 h2 h3=>hk k x h1 (by omega)).add (x:=(b,1+2*P.length)) (Q:=P) (by dsimp only;omega) f7 rfl (hk b _ d8 (by omega));have hU:=fun Q C=>qhx s (Q:=Q) (C:=C) a.full M hP
 rw[W];have hm:=c6.1;have h6:pre.length<=5:=by
  have h1:=V3 a.full;have h2:=congrArg List.length W;rw[qBp,h1]at h2;have:=qBA.2 M;omega
 generalize hB:bs++[(b,1+2*P.length)]=B at *;have b9:B.length=pre.length+1:=by rw[hm];simp
 obtain⟨x0,B',rfl⟩:∃x r,B=x::r:=by cases B with|nil=>simp at b9|cons x r=>exact⟨x,r,rfl⟩
 generalize hC:pre++[P]=C at *;obtain⟨Q0,C',rfl⟩:∃x r,C=x::r:=by cases C with|nil=>simp at hC|cons x r=>exact⟨x,r,rfl⟩
 rw[hU Q0 C' rfl];have g8:C'.length=pre.length:=by simp at hm b9;omega
 simp at E b9;have i2:=hk 2 _ c2 (by omega);have i0:=(qBk.1 Z).1;have f6:=Go.Abs.zZ (sz:=4) (en:=enI) (fun _=>rfl) (x0::B');have d2:∀i x,(x0::B')[i]?=some x->(((x0::B').flatMap enI).drop (i*4)).take 4=enI x:=fun i x h=>qbb (sz:=4) (en:=enI) (fun _=>rfl) h
 have k0:=d2 0 x0 rfl;rw[qDa,qCG]at k0;rw[qBB]at f6;generalize (x0::B').flatMap enI=F at *;simp[-getElem?_pos,f,j,g,c2,<- J,E,Z,k0,show 4<=F.length by omega,show(0:Int)<(B'.length:Int)+1 by omega];refine yu pre.length (fun k ev σ=>ev 4=.ptr 0 0/\ev 6=.ms H.length 0 (B'.length+1) 4/\ev 9=.ptr H'.length 0/\ev 10=.int .i64 ((k:Int)+1)/\∃o c1 c2 c3,σ=⟨H'++[.cells [.int .i64 o,c1,c2,c3]],T⟩/\NearK (k+1) [.int .i64 o,c1,c2,c3] (yY s (kA s Q0) (C'.take k)) (fun K=>∀k x,H'[k]?=some x->2<k->K[k]?=some x)) ?_ ?_ ?_
 . obtain⟨x1,x2,x3,x4⟩:=c6.2 0 x0 Q0 rfl rfl;exact⟨by simp[v],by simp,by simp,by simp,_,_,_,_,by simp,(qkE s x3).imp fun K hK=>hK _ _ x4 x1⟩
 . rintro k ev ⟨K,T'⟩ R hR i3 ⟨v,e6,e9,a8,o,y1,y2,y3,hσ,S⟩;obtain⟨rfl,rfl⟩:=(St.mk.injEq _ _ _ _).mp hσ;obtain⟨Q,hQ⟩:∃Q,C'[k]?=some Q:=⟨_,qBm (by omega)⟩;obtain⟨x,t⟩:∃x,B'[k]?=some x:=⟨_,qBm (by omega)⟩;obtain⟨x1,x2,x3,x4⟩:=c6.2 (k+1) x Q (by simpa using t) (by simpa using hQ);have f9:=d2 (k+1) x (by simpa using t);have X:=wr (n:=(k:Int)+1+1);simp[-qL,-getElem?_pos,ZJ S.atoms,e6,e9,a8,show(k:Int)+1<(B'.length:Int)+1 by omega];rw[qG rfl];have c9:=qeC (tok:=.tight) S (((qkE s x3).imp fun K hK=>hK _ _ x4 x1).mono (Nat.le_add_left 1 k));rw[show orE (yY s (kA s Q0) (C'.take k)) (kA s Q)=yY s (kA s Q0) (C'.take (k+1)) by unfold yY;rw[qBQ,hQ,qCb];rfl]at c9;have f4:(k+1)*4+4<=F.length:=(by omega);simp[-qL,-getElem?_pos,qX,ZJ S.atoms,e6,e9,a8,qa Z,f9,f4,show(0:Int)<=(k:Int)+1 by omega,show k<B'.length by omega,X];exact hR _ _ ⟨by simp[v],by simp[e6],by simp[e9],by simp,_,_,_,_,rfl,c9⟩
 rintro ev ⟨K,T'⟩ ⟨v,e6,e9,a8,o,y1,y2,y3,hσ,S⟩;obtain⟨rfl,rfl⟩:=(St.mk.injEq _ _ _ _).mp hσ;have c0:=hk 0 _ a.c0 (by omega);simp[-qL,-getElem?_pos,ZJ S.atoms,v,e6,e9,a8,show ¬(pre.length:Int)+1<(B'.length:Int)+1 by omega,qa c0];rw[qBr (by omega)]at S;exact S.agg (by omega) _ fun k x h1 h2=>by rw[qBn (by omega)];exact qa h1 _
def qm3(vs d)(h:d.weights=[]):vO vs d=z8 0:=by
 unfold vO;split
 . rename_i v _;have:ZR v d.weights=[]:=by
    unfold ZR;rw[h];have:(vX [])=fun _=>false:=by funext n;rfl
    rw[this];simp
   rw[this];rfl
 rfl
def qrz(vs l a)(h:z8 0∈l):yX vs l a=false:=by
 have h0:evalV (ke vs a) (z8 0)=0:=by
  unfold evalV;split
  . rw[yM];simp[z8,wH,Ex.op,Ex.n]
  rfl
 unfold yX;rw[qEl];exact⟨_,h,by simp[h0]⟩
def Zy{p}(h:VQ p)(hd:p.dists.length<=10000)(x:p.soft.length<=10000)(v:(qt p).2=0):
 qg p=0/\(∀e∈(qt p).1,zz p.vars e=0/\ZK e)/\(qt p).1.length<=50000/\∀d∈p.dists,d.weights≠[]:=by
 obtain⟨c,f,r,_⟩:=Qg (by rwa[<- wT]);have t:=Qp h c;have i:jB p=yJ p:=by unfold jB;rw[if_pos c]
 rw[r];refine⟨c,fun e b=>?_,?_,fun d m u=>?_⟩
 . have s:e∈zw p++p.soft:=by
    rcases qBC.1 b with b|b
    . exact qBC.2 (.inl b)
    obtain⟨q,l,rfl⟩:=qBH.1 b;obtain⟨k,_,j⟩:=qeG l;exact qBC.2 (.inr (qBl j))
   have:=t e s;exact⟨by simpa[wJ] using this.1,this.2⟩
 . have h1:=qa6 p;have h2:=h.hard;have w:(yJ p).length=p.dists.length:=(by simp[yJ]);simp only[qBp,qBT,zw,i];omega
 have o:z8 0∈zw p:=by
  unfold zw;rw[i];exact qBC.2 (.inr (qBH.2 ⟨d,m,qm3 _ _ u⟩))
 unfold jw at f;obtain⟨a,_,g⟩:=qBM.1 f;rw[qrz _ _ _ o]at g;cases g
def qrY:List (Nat×Sch×List Nat):=[(4,.step 1 [8,7,6] (.step 2 [8,7,6,5,3] (.step 3 [8,7,6,5] (.step 4 [8,7,6,5] (.fork (.cons 0 (.step 5 [8,7,6] (.step 6 [8,7] (.step 7 [8] (.step 8 [] (.done))))) (.cons 5 (.step 0 [8,7,6] (.step 6 [8,7] (.step 7 [8] (.step 8 [] (.done))))) (.nil))))))),[5])]
def OpQ(p:Problem)(H:List Blk)(r:AV)(σ':St):Prop :=
 KpL [] H σ'.H/\(((qt p).2≠0/\r=.tup [.nilp,.int .i64 (qt p).2]) \/
  ((qt p).2=0/\∃s d,r=.tup [.ptr s.S 0,.int .i64 0]/\H.length<=s.S/\H.length<=s.L/\H.length<=s.LL/\s.p=p/\s.R=(qt p).1/\SpOk s σ'.H/\SpV s d /\
    (s.small=true->∀b,evD d b s.root=yX p.vars (qt p).1 (Zi p.vars (qS p) b))))
def qu9(p)(h:VQ p)(o:p.vars.length<=20)(hb:kj p.vars (qI p)<=18)(hd:p.dists.length<=10000)(F:p.soft.length<=10000)(a0:∀d∈p.dists,d.weights.length<=1000)(H T):
 qh prog GG 55 [.agg (qw p)] ⟨H,T⟩ (OpQ p H):=by
 refine qFE ⟨false,qrY,[],[]⟩ func55 ?_;by_cases j:(qt p).2=0
 case neg=>
  have z:=WU p h o hb hd F;simp;refine qFG z ?_;have hq:∀u T',OpQ p H (.tup [.nilp,.int .i64 (qt p).2]) ⟨H++u,T'⟩:=fun u T'=>⟨qGe,.inl ⟨j,rfl⟩⟩
  generalize (qt p).2=er at *;simp[j];exact hq _ _
 case pos=>
  obtain⟨m,x,P,X⟩:=Zy h hd F j;have N:=qdL p h m;simp;refine qFJ (qpE p h o hb hd F j _ _) ?_;rintro r ⟨H1,W⟩ ⟨tok,rfl,Q,E⟩;have bx:=E.2 _ _ lk0 (by simp);have Z:=E.1;simp only[qBp,qBB,qCc]at Z;obtain⟨R,D⟩:∃R,R=(qt p).1:=⟨_,rfl⟩;rw[<- D]at Q x P⊢;simp;rw[qG rfl];simp only[qw]at N;simp[qX,bx];refine qFG N ?_;simp[qX,bx];have A:=qmL p h m H1 W;simp only[qw]at A;refine⟨qFJ A ?_,qFJ A ?_⟩
  all_goals
   rintro r ⟨g,T2⟩ ⟨S,L,LL,rfl,a9,b0,U⟩;have G:=S.2 _ _ bx (by simp);have v:=(qGe.trans E).trans S;have a6:L<g.length:=(by obtain⟨c,a,_⟩:=U;exact(qBk.1 a).1);obtain⟨f,b1,a4,a5⟩:∃f,f<g.length/\H.length<=f/\WFn p L f g:=by
    obtain⟨c,a,M⟩:=U;by_cases K:p.vars=[]
    . exact⟨L,a6,by omega,c,a,fun e=>absurd K e⟩
    exact⟨LL,(qBk.1 (M K).2).1,by omega,c,a,M⟩
   simp[qX,G,qa G,qV,zt,qx];refine qFJ ((qwJ p h m R (by omega) x _ _).leq (by simp[qw])) ?_;rintro r ⟨C,J⟩ ⟨l,z⟩;dsimp only at l;have y:=l.2 _ _ lk0 (by simp);have B:=(qBk.1 y).1;have V:KpL [] H C:=v.trans (qGe.trans l);have Y:WFn p L f C:=by
    obtain⟨c,s,a⟩:=a5;have I:=qGe.trans l;exact⟨c,I.2 _ _ s (by simp),fun e=>⟨(a e).1,I.2 _ _ (a e).2 (by simp)⟩⟩
   have a7:∀(i:Nat) (w:List Weight),(je p.vars.length p.dists)[i]?=some (some w)->w≠[]/\w.length<=1000:=fun i w hi=>by
    obtain⟨d,hd,rfl⟩:=qib (qBl hi);exact⟨X d hd,a0 d hd⟩
   have fin:∀(dv:AV) (root:Nat) (small:Bool) (d:List Nd) (T':List (Option Nat)),(small=true->DagOk d/\(∃tok,dv=.sl 3 (d.map qU) tok)/\root<d.length)->(small=true->∀b,evD d b root=yX p.vars R (Zi p.vars (qS p) b)) ->
    OpQ p H (.tup [.ptr g.length 0,.int .i64 0]) ⟨C.set g.length (.cells (qw p++[.sl 4 (R.map qo) tok,.sl 1 ((qS p).map qf) .none,dv,.int .i64 root,.bool small,.fn 132 [] [.ptr L 0]])),T'⟩:=by
    intro dv root small d T' a2 a3;refine⟨V.setF (by have:=v.1;omega),.inr ⟨j,⟨g.length,L,f,p,R,tok,qS p,dv,root,small⟩,d,rfl,v.1,by dsimp only;omega,a4,rfl,D,⟨?_,?_,?_⟩,⟨h,m,o,hb,x,P,Q,rfl,a2,a7⟩,by rw[<- D];exact a3⟩⟩
    . exact qBo B
    . obtain⟨c,s,a⟩:=Y;exact⟨c,by dsimp only;rw[qBn (by omega)];exact s,fun e=>⟨(a e).1,by dsimp only;rw[qBn (by omega)];exact(a e).2⟩⟩
    dsimp only;rw[qCO];omega
   rcases z with rfl|⟨d,t,O,rfl,a1,ht,a8⟩
   . simp[-getElem?_pos,y,B];exact fin (.sl 0 [] .nil) 0 false [] J (by simp) (by simp)
   simp[-getElem?_pos,y,B];exact fin (.sl 3 (d.map qU) O) t true d J (fun _=>⟨a1,⟨O,rfl⟩,ht⟩) (fun _=>a8)
def vx:∀{vs:List Var}{a:List Int},okA vs a->∀{i:Nat}{v:Var},vs[i]?=some v->∃x,a[i]?=some x/\(if v.mode=0 then x=v.value else 0<=x/\x<(zG v:Nat))
 |[],_,_,i,v,b=>by simp at b
 |w::vs,[],h,i,v,b=>h.elim
 | w::vs,y::a,h,0,v,b=>by
  simp at b;subst b;exact⟨y,rfl,h.1⟩
 | w::vs,y::a,h,i+1,v,b=>by
  obtain⟨x,h1,h2⟩:=vx (vs:=vs) (a:=a) h.2 (i:=i) (v:=v) (by simpa using b);exact⟨x,by simpa using h1,h2⟩
def eqP(p:Problem)(q:Nat×Nat):Ex:=eqE (YE p q.1) (q.2:Int)
def qv7{p}(d:qg p=0){a}(o:a∈yS p.vars){i v}(hi:p.vars[i]?=some v){n}(z:n<=65535):
 decide (evalV (ke p.vars a) (eqP p (i,n))≠0)=decide (a[i]?=some (n:Int)):=by
 have h:=kD.1 o;obtain⟨x,e,g⟩:=vx h hi;have b:=qBl hi;have s:=zb (zJ d v b);have y:=qam (zJ d v b);have f:0<=x/\x<=65535:=by
  split at g
  . omega
  have w:2^v.width.toNat<=2^8:=qBF (by omega) (by omega);unfold zG at g;omega
 have c:=Qw (y8 d) hi e;rw[QF f.1 f.2]at c;have j:ke p.vars a=(p.vars.zip a).map fun q=>⟨q.1.name,q.2⟩:=by unfold ke;rw[if_pos h.len]
 have r:=qqw s.1 (n:=(n:Int)) (by omega) (by omega);have hex:=r.valid (by omega) (by omega) (by unfold wK;rw[qBM];exact⟨v,b,by simp⟩);have l:zr (eqE v.name (n:Int))=0:=by
  by_cases h0:zr (eqE v.name (n:Int))=0
  . exact h0
  unfold zz at hex;rw[if_pos h0]at hex;exact absurd hex h0
 have m:jC (ke p.vars a) (eqE v.name (n:Int))=true:=by
  unfold jC;rw[qeq,j];simp[qiM,eqE,wO,z8,Ex.op,Ex.name,c]
 have t:evalV (ke p.vars a) (eqE v.name (n:Int))=b2i (decide (x=(n:Int))):=by
  unfold evalV;rw[if_pos ⟨l,m⟩,yM,j];simp[eqE,wO,z8,Ex.op,Ex.name,Ex.args,Ex.n,wH,yM,c,opW,jW,b2i]
 show decide (evalV _ (eqE (YE p i) (n:Int))≠0)=_;rw[show YE p i=v.name by simp[YE,hi],t,e];by_cases u:x=(n:Int)<;>simp[b2i,u]
noncomputable def okC(p:Problem)(R:List Ex)(c:List (Nat×Nat)):Bool:=(yS p.vars).any fun a=>yX p.vars R a&&c.all fun q=>decide (a[q.1]?=some (q.2:Int))
noncomputable def WW(p:Problem)(R:List Ex)(fx:Nat->Option Nat):List Nat->List (Nat×Nat)->Nat
 |[],c=>if okC p R c=true then 1 else 0
 |i::r,c=>if okC p R c=true then(wP (jG p i) (fx i)).foldl (fun s v=>sat (s+sat (wtP p i v*WW p R fx r (c++[(i,v)])))) 0 else 0
def qpH(p:Problem)(c:List (Nat×Nat)):Prop:=∀q∈c,(∃v,p.vars[q.1]?=some v/\v.mode≠0)/\q.2<2^jG p q.1
def qq2{p}(a:qg p=0){i v}(hi:p.vars[i]?=some v):jG p i=v.width.toNat/\v.width.toNat<=8:=by
 have b:=zb (zJ a v (qBl hi));exact⟨by unfold jG zP;rw[hi],by omega⟩
def qpH.lt{p}(d:qg p=0){c}(h:qpH p c){q}(b:q∈c):q.2<=65535:=by
 obtain⟨⟨v,hi,_⟩,a⟩:=h q b;obtain⟨h1,h2⟩:=qq2 d hi;rw[h1]at a;have e:2^v.width.toNat<=2^8:=qBF (by omega) (by omega);omega
def qfG{p}(e:qg p=0)(R){c}(f:qpH p c):jw p.vars (R++c.map (eqP p))=okC p R c:=by
 unfold jw okC;apply qCo.2;simp only[qBM];have key:∀a∈yS p.vars,yX p.vars (R++c.map (eqP p)) a=(yX p.vars R a&&c.all fun q=>decide (a[q.1]?=some (q.2:Int))):=fun a b=>by
  unfold yX;rw[qCU,qEs];congr 1;apply qCo.2;simp only[qBx];refine forall_congr' fun q=>forall_congr' fun d=>?_
  obtain⟨⟨v,hi,_⟩,_⟩:=f q d;have:=qv7 e b hi (f.lt e d);simp only[Function.comp];rw[<- this]
 constructor
 . rintro⟨a,b,h⟩;exact⟨a,b,by rw[<- key a b];exact h⟩
 rintro⟨a,b,h⟩;exact⟨a,b,by rw[key a b];exact h⟩
def qmE(p:Problem)(fx:Nat->Option Nat):Prop:=∀i x,fx i=some x->x<2^jG p i
def qjj{p fx}(b:qmE p fx){i v}(h:v∈wP (jG p i) (fx i)):v<2^jG p i:=by
 unfold wP at h;split at h
 . exact qCe.1 h
 rename_i x a;have:=qB0.1 h;subst this;exact b i _ a
def wh{α:Type}{f g:Nat->α->Nat}:∀{l:List α}{s:Nat},(∀s,∀v∈l,f s v=g s v)->l.foldl f s=l.foldl g s
 |[],s,h=>rfl
 | a::r,s,h=>by
  rw[qB2,qB2,h s a (by simp)];exact wh fun s v b=>h s v (by simp[b])
def qjz{p}(e:qg p=0)(R){fx}(f:qmE p fx):∀(g) (c),(∀i∈g,∃v,p.vars[i]?=some v/\v.mode≠0)->qpH p c ->
 qea p fx g (R++c.map (eqP p))=WW p R fx g c:=by
 intro g
 induction g with
 |nil=>intro c _ b;unfold qea WW;rw[qfG e R b]
 | cons i r ih=>
  intro c d b;unfold qea WW;rw[qfG e R b];split
  . refine wh fun s v m=>?_
    have l:qpH p (c++[(i,v)]):=fun q a=>by
     rcases qBC.1 a with a|a
     . exact b q a
     have:=qB0.1 a;subst this;exact⟨d i (by simp),qjj f m⟩
    have:=ih (c++[(i,v)]) (fun j h=>d j (by simp[h])) l;rw[qCl,<- qBX]at this;rw[<- this];rfl
  rfl
def LW(p:Problem)(l:List Nat):Nat:=(l.map (jG p)).sum
def qg9(p l m):LW p (l++m)=LW p l+LW p m:=by simp[LW]
def qbF{p}(a:qg p=0):∀l:List Nat,kE p.vars (l.map fun n:Nat=>(n:Int))=(LW p l:Int)
 |[]=>rfl
 | i::r=>by
  have ih:=qbF a r;have h0:=JA (QH a) i;have b:kE p.vars ((i::r).map fun n:Nat=>(n:Int))=zP p.vars i+kE p.vars (r.map fun n:Nat=>(n:Int)):=by simp[kE]
  have c:LW p (i::r)=jG p i+LW p r:=by simp[LW]
  rw[b,c,ih];unfold jG;omega
def qcO{p}(a:qg p=0){k i}(c:(NG p).flatten[k]?=some i):JK (qS p) i=LW p ((NG p).flatten.take k):=by
 have b:p.groups.flatten[k]?=some (i:Int):=by rw[ZL a,qBO,c];rfl
 have h1:=Wc a b;rw[ZL a,<- List.map_take,qbF a]at h1;unfold JK;rw[qBw,h1];simp
def qtz{p}(a:qg p=0):LW p (NG p).flatten<=20:=by
 have:=Wu a;rw[ZL a,qbF a]at this;omega
def qlC{d}(h:DagOk d){node l w v}(a:node<d.length)(g:l<=lvD d node)(o:l+w<=20):∀k,k<=w ->
 vG d l w v node k<d.length/\l+k<=lvD d (vG d l w v node k)/\∀b,(∀j,j<k->b (l+j)=v.testBit (w-1-j))->evD d b node=evD d b (vG d l w v node k):=by
 intro k
 induction k with
 |zero=>intro _;exact⟨a,g,fun b _=>rfl⟩
 | succ k ih=>
  intro i;obtain⟨h1,h2,e⟩:=ih (by omega);rw[JZ];obtain⟨f,r,c⟩:=wg h h1 (L:=l+k) (by omega) h2 (v.testBit (w-1-k));refine⟨f,by omega,fun b hb=>?_⟩;rw[e b fun j m=>hb j (by omega),c b (hb k (by omega))]
def YN(p:Problem)(b:Nat->Bool)(i:Nat):Nat:=zA (fun k=>b (JK (qS p) i+jG p i-1-k)) (jG p i)
def Ko{p b i v}(h:YN p b i=v){j}(a:j<jG p i):b (JK (qS p) i+j)=v.testBit (jG p i-1-j):=by
 rw[<- h];unfold YN;rw[ze];simp[show jG p i-1-j<jG p i by omega,show JK (qS p) i+jG p i-1-(jG p i-1-j)=JK (qS p) i+j by omega]
def ql1:List (Nat×Nat)->Nat->Bool
 |[],_=>false
 |(w,v)::r,l=>if l<w then v.testBit (w-1-l) else ql1 r (l-w)
def qgU:∀(l) (k w v j),l[k]?=some (w,v)->j<w->ql1 l (((l.take k).map (·.1)).sum+j)=v.testBit (w-1-j)
 |[],k,w,v,j,h,_=>by simp at h
 | (w',v')::r,0,w,v,j,h,a=>by
  simp at h;obtain⟨rfl,rfl⟩:=h;simp[ql1,a]
 | (w',v')::r,k+1,w,v,j,h,a=>by
  have ih:=qgU r k w v j (by simpa using h) a;have e:((((w',v')::r).take (k+1)).map (·.1)).sum+j=w'+(((r.take k).map (·.1)).sum+j):=by simp;omega
  rw[e,ql1,if_neg (by omega),qCt,ih]
def qgT{p}(e:qg p=0)(val:Nat->Nat):∃b,∀i∈(NG p).flatten,YN p b i=val i%2^jG p i:=by
 refine⟨ql1 ((NG p).flatten.map fun i=>(jG p i,val i)),fun i hi=>?_⟩;obtain⟨k,a⟩:=qB1 hi;have d:=qcO e a;rw[<- Ya];unfold YN;apply zB;intro j f;have h:=qgU ((NG p).flatten.map fun i=>(jG p i,val i)) k (jG p i) (val i) (jG p i-1-j) (by rw[qBO,a];rfl) (by omega);have c:(((((NG p).flatten.map fun i=>(jG p i,val i)).take k).map (·.1)).sum)=LW p ((NG p).flatten.take k):=by
  unfold LW;rw[<- List.map_take,qCN];rfl
 rw[c,<- d]at h;rw[show JK (qS p) i+jG p i-1-j=JK (qS p) i+(jG p i-1-j) by omega,h,show jG p i-1-(jG p i-1-j)=j by omega]
def qaF{p}(b:qg p=0){i v}(hi:p.vars[i]?=some v)(c:v.mode≠0):i∈(NG p).flatten:=by
 obtain⟨k,a⟩:=qj0 b hi c;rw[ZL b,qBO]at a
 cases h:(NG p).flatten[k]? with
 |none=>rw[h]at a;cases a
 | some j=>
  rw[h]at a;have:(j:Int)=i:=by simpa using a
  have:j=i:=by omega
  exact this▸qBl h
def km{p}(a:qg p=0){i}(hi:i∈(NG p).flatten):∃v,p.vars[i]?=some v/\v.mode≠0:=by
 obtain⟨k,b⟩:=qmv a hi;obtain⟨n,v,e,d,c⟩:=Zn ((jI a).2.1 _ (qBl b));have:n=i:=by omega
 subst this;exact⟨v,d,c⟩
def vK{p}(c:qg p=0)(b){i v}(hi:p.vars[i]?=some v)(d:v.mode≠0):(Zi p.vars (qS p) b)[i]?=some (YN p b i:Int):=by
 have a:=qBm (by rw[kR];exact(qBk.1 hi).1);rw[qfg hi a];unfold qjt YN JK;rw[if_neg d,(qq2 c hi).1,qBw,a];rfl
def qbs{p:Problem}(b:Nat->Bool){i:Nat}{v:Var}(hi:p.vars[i]?=some v)(c:v.mode=0):(Zi p.vars (qS p) b)[i]?=some v.value:=by
 have a:=qBm (by rw[kR];exact(qBk.1 hi).1);rw[qfg hi a];unfold qjt;rw[if_pos c]
def qkv:∀{vs:List Var}{a:List Int},a.length=vs.length->(∀(i:Nat) (v:Var),vs[i]?=some v->∃x,a[i]?=some x/\(if v.mode=0 then x=v.value else 0<=x/\x<(zG v:Nat)))->okA vs a
 |[],[],_,_=>trivial
 |[],_::_,h,_=>by simp at h
 |_::_,[],h,_=>by simp at h
 | v::vs,x::a,h,d=>by
  obtain⟨y,b,c⟩:=d 0 v rfl;simp at b;subst b;exact⟨c,qkv (by simpa using h) fun i w e=>by
   obtain⟨y,b,c⟩:=d (i+1) w (by simpa using e);exact⟨y,by simpa using b,c⟩⟩
def qrf(p b i):YN p b i<2^jG p i:=wa _ _
def qbt{p}(c:qg p=0)(b):Zi p.vars (qS p) b∈yS p.vars:=by
 refine kD.2 (qkv (Ka (kR p) b) fun i v hi=>?_);by_cases a:v.mode=0
 . exact⟨_,qbs b hi a,by rw[if_pos a]⟩
 refine⟨_,vK c b hi a,?_⟩;rw[if_neg a];have:=qrf p b i;rw[(qq2 c hi).1]at this;unfold zG;omega
def qdC{p}(d:qg p=0){a}(m:a∈yS p.vars):∃b,Zi p.vars (qS p) b=a/\∀i∈(NG p).flatten,a[i]?=some (YN p b i:Int):=by
 have g:=kD.1 m;obtain⟨b,hb⟩:=qgT d (fun i=>(a.getD i 0).toNat);have h:∀i∈(NG p).flatten,a[i]?=some (YN p b i:Int):=fun i hi=>by
  obtain⟨v,j,c⟩:=km d hi;obtain⟨x,f,e⟩:=vx g j;rw[if_neg c]at e;have:=hb i hi;rw[qBw,f]at this;unfold zG at e;rw[(qq2 d j).1]at this;dsimp only[Option.getD]at this;have l:x.toNat<2^v.width.toNat:=by omega
  rw[qDw l]at this;rw[f,this];congr 1;omega
 refine⟨b,?_,h⟩;apply qCg;intro i
 cases hi:p.vars[i]? with
 | none=>
  have o:=qEQ.1 hi;rw[qBW (by rw[Ka (kR p)];exact o),qBW (by rwa[g.len])]
 | some v=>
  by_cases c:v.mode=0
  . obtain⟨x,f,e⟩:=vx g hi;rw[if_pos c]at e;rw[qbs b hi c,f,e]
  rw[vK d b hi c,h i (qaF d hi c)]
structure Inv(p)(d:List Nd)(root)(c:List (Nat×Nat))(node):Prop where
 lt:node<d.length
 lv:LW p (c.map (·.1))<=lvD d node
 pre:∃post,(NG p).flatten=c.map (·.1)++post
 ev:∀b,(∀q∈c,YN p b q.1=q.2)->evD d b root=evD d b node
def qgt{p}(e:qg p=0){d}(hd:DagOk d){root c node}(h:Inv p d root c node){i v}(hi:∃post,(NG p).flatten=c.map (·.1)++i::post):
 Inv p d root (c++[(i,v)]) (vG d (JK (qS p) i) (jG p i) v node (jG p i)):=by
 obtain⟨post,a⟩:=hi;have g:(NG p).flatten[(c.map (·.1)).length]?=some i:=by rw[a,qBt (qBs _),qCh];rfl
 have f:=qcO e g;rw[show(NG p).flatten.take (c.map (·.1)).length=c.map (·.1) by rw[a,List.take_left]]at f;have s:LW p (c.map (·.1))+jG p i<=20:=by
  have h1:=qtz e;rw[a,qg9]at h1;have:LW p (i::post)=jG p i+LW p post:=by simp[LW]
  omega
 obtain⟨h1,h2,o⟩:=qlC hd (w:=jG p i) (v:=v) h.lt (l:=JK (qS p) i) (by rw[f];exact h.lv) (by omega) (jG p i) (qBs _);refine⟨h1,?_,⟨post,by rw[a];simp⟩,fun b hb=>?_⟩
 . rw[qCl,qg9];have:LW p (([(i,v)]:List (Nat×Nat)).map (·.1))=jG p i:=by simp[LW]
   omega
 rw[h.ev b fun q m=>hb q (by simp[m])];exact o b fun j r=>Ko (hb (i,v) (by simp)) r
def Vj{p b b' i}(h:∀j,j<jG p i->b (JK (qS p) i+j)=b' (JK (qS p) i+j)):YN p b i=YN p b' i:=by
 unfold YN;apply zB;intro k a;rw[show JK (qS p) i+jG p i-1-k=JK (qS p) i+(jG p i-1-k) by omega];exact h _ (by omega)
def qgJ{q}:∀{c:List (Nat×Nat)},(c.map (·.1)).Nodup->q∈c->c.find? (fun d=>d.1==q.1)=some q
 |[],_,h=>by simp at h
 | x::r,a,h=>by
  rw[qBz,qC7]at a;rcases qBN.1 h with rfl|h
  . simp
  have b:¬x.1=q.1:=fun e=>a.1 (qBH.2 ⟨q,h,e.symm⟩)
  have:(x.1==q.1)=false:=by simpa using b
  rw[qDS,this];exact qgJ a.2 h
def qgs{p}(f:qg p=0){R d}(hd:DagOk d){root}(t:∀b,evD d b root=yX p.vars R (Zi p.vars (qS p) b)){c}(x:qpH p c)(z:(NG p).flatten.Nodup){node}(h:Inv p d root c node):
 okC p R c = !decide (node=0):=by
 obtain⟨post,g⟩:=h.pre;have A:∀q∈c,q.1∈(NG p).flatten:=fun q e=>by rw[g];exact qBC.2 (.inl (qBH.2 ⟨q,e,rfl⟩))
 by_cases h0:node=0
 . have:okC p R c=false:=by
    rw[qCs];intro w;unfold okC at w;obtain⟨a,E,o⟩:=qBM.1 w;rw[qBq]at o;obtain⟨b,hb,K⟩:=qdC f E;have m:∀q∈c,YN p b q.1=q.2:=fun q e=>by
     have h1:=K _ (A q e);have h2:=of_decide_eq_true (qBx.1 o.2 q e);rw[h1]at h2;have:(YN p b q.1:Int)=(q.2:Int):=by simpa using h2
     omega
    have h1:=h.ev b m;rw[t,hb,h0,YG hd]at h1;rw[h1]at o;cases o.1
   rw[this,h0];rfl
 have:okC p R c=true:=by
  obtain⟨b,hb⟩:=qs9 hd node node h.lt (qBs _) h0;obtain⟨b0,O⟩:=qgT f (fun i=>match c.find? (fun q=>q.1==i) with|some q=>q.2|none=>0);obtain⟨b',y⟩:∃b':Nat->Bool,b'=fun l=>if l<LW p (c.map (·.1)) then b0 l else b l:=⟨_,rfl⟩
  have J:evD d b' node=true:=by
   rw[<- hb];apply qdp hd h.lt;intro l S;have:=h.lv;rw[y];dsimp only;rw[if_neg (by omega)]
  have N:(c.map (·.1)).Nodup:=by
   rw[g]at z;exact(qCX.1 z).1
  have m:∀q∈c,YN p b' q.1=q.2:=fun q e=>by
   obtain⟨k,r⟩:=qB1 e;have L:=(qBk.1 r).1;have F:(NG p).flatten[k]?=some q.1:=(by rw[g,qBv (by simpa using L),qBO,r];rfl);have D:=qcO f F;have Q:JK (qS p) q.1+jG p q.1<=LW p (c.map (·.1)):=by
    rw[D,show(NG p).flatten.take k=(c.map (·.1)).take k by rw[g,qCv (by simp;omega)]];have h1:(c.map (·.1))=(c.map (·.1)).take k++q.1::(c.map (·.1)).drop (k+1):=by
     have h2:(c.map (·.1)).drop k=q.1::(c.map (·.1)).drop (k+1):=by
      have u:(c.map (·.1))[k]?=some q.1:=(by rw[qBO,r];rfl);obtain⟨G,B⟩:=qBk.1 u;rw[qBE G,B]
     rw[<- h2,qB9]
    have h2:=congrArg (LW p) h1;rw[qg9]at h2;have u:LW p (q.1::(c.map (·.1)).drop (k+1))=jG p q.1+LW p ((c.map (·.1)).drop (k+1)):=(by simp[LW]);omega
   have C:YN p b' q.1=YN p b0 q.1:=Vj fun j P=>by
    rw[y];dsimp only;rw[if_pos (by omega)]
   rw[C,O _ (A q e)];have M:=qgJ N e;rw[M];exact qDw (x q e).2
  have s:=h.ev b' m;rw[J,t]at s;unfold okC;refine qBM.2 ⟨_,qbt f b',?_⟩;rw[s,qCC,qBx];intro q e;obtain⟨⟨v,hi,I⟩,_⟩:=x q e;rw[vK f b' hi I,m q e];simp
 rw[this];simp[h0]
def qjC{p}(e:qg p=0){R d}(hd:DagOk d){root}(m:∀b,evD d b root=yX p.vars R (Zi p.vars (qS p) b))(o:(NG p).flatten.Nodup){fx}(t:qmE p fx):
 ∀(g) (c) (node),(∃post,(NG p).flatten=c.map (·.1)++g++post)->qpH p c->Inv p d root c node->qbH p (qS p) d fx g node=WW p R fx g c:=by
 intro g
 induction g with
 | nil=>
  intro c node l f h;unfold qbH WW;rw[qgs e hd m f o h];by_cases h0:node=0<;>simp[h0]
 | cons i r ih=>
  intro c node l f h;obtain⟨post,j⟩:=l;unfold qbH WW;rw[qgs e hd m f o h];by_cases h0:node=0
  . simp[h0]
  simp only[h0,if_false,decide_false,qEy,if_true];refine wh fun s v w=>?_
  have u:qpH p (c++[(i,v)]):=fun q a=>by
   rcases qBC.1 a with a|a
   . exact f q a
   have:=qB0.1 a;subst this;exact⟨km e (by rw[j];simp),qjj t w⟩
  rw[ih (c++[(i,v)]) _ ⟨post,by rw[j];simp⟩ u (qgt e hd h ⟨r++post,by rw[j];simp⟩)]
def qsJ{p d root}(h:root<d.length):Inv p d root [] root:=⟨h,by simp[LW],⟨_,rfl⟩,fun b _=>rfl⟩
def qox{p}(b:qg p=0){d}(hd:DagOk d){root}(val:Nat->Nat):∀(l) (c) (node),Inv p d root c node->(∃post,(NG p).flatten=c.map (·.1)++l++post) ->
 Inv p d root (c++l.map fun i=>(i,val i)) (l.foldl (fun node i=>vG d (JK (qS p) i) (jG p i) (val i) node (jG p i)) node):=by
 intro l
 induction l with
 |nil=>intro c node h _;simpa using h
 | cons i r ih=>
  intro c node h ⟨post,a⟩;have h1:=qgt b hd h (i:=i) (v:=val i) ⟨r++post,by rw[a];simp⟩;have h2:=ih _ _ h1 ⟨post,by rw[a];simp⟩;rw[qB2,qBz];simpa using h2
def qg5{p gi g}(h:(NG p)[gi]?=some g):∃post,(NG p).flatten=((NG p).take gi).flatten++g++post:=by
 have h1:=qB9 gi (NG p);obtain⟨h2,a⟩:=qBk.1 h;refine⟨((NG p).drop (gi+1)).flatten,?_⟩
 conv=>lhs;rw[<- h1,show(NG p).drop gi=g::(NG p).drop (gi+1) by rw[qBE h2,a]]
 simp
def qg6{p}(a:qg p=0):(NG p).flatten.Nodup:=by
 have h:=(jI a).2.2.1;rw[ZL a]at h;exact(qDG.1 h).imp fun b e=>b (by rw[e])
def qrl{s d}(h:SpV s d)(o:s.small=true->∀b,evD d b s.root=yX s.p.vars s.R (Zi s.p.vars (qS s.p) b)){fx}(j:qmE s.p fx){a}(t:∀i∈(NG s.p).flatten,aN a i<2^jG s.p i){gi}(v:gi<(NG s.p).length):
 qau s d fx a gi=WW s.p s.R fx ((NG s.p).getD gi []) (((NG s.p).take gi).flatten.map fun i=>(i,aN a i)):=by
 obtain⟨g,f⟩:∃g,(NG s.p)[gi]?=some g:=⟨_,qBm v⟩;obtain⟨post,e⟩:=qg5 f;have l:∀i∈((NG s.p).take gi).flatten,i∈(NG s.p).flatten:=fun i hi=>by rw[e];simp[hi]
 have w:qpH s.p (((NG s.p).take gi).flatten.map fun i=>(i,aN a i)):=fun q r=>by
  obtain⟨i,hi,rfl⟩:=qBH.1 r;exact⟨km h.vp (l i hi),t i (l i hi)⟩
 have u:(((NG s.p).take gi).flatten.map fun i=>(i,aN a i)).map (·.1)=((NG s.p).take gi).flatten:=by
  rw[qCN];exact qFc _
 unfold qau;rw[show(NG s.p).getD gi []=g by simp[qBw,f]];by_cases c:s.small=true
 . rw[if_pos c];obtain⟨hd,_,m⟩:=h.dag c;have hi:=qox h.vp hd (aN a) ((NG s.p).take gi).flatten [] s.root (qsJ m) ⟨g++post,by rw[e];simp⟩;rw[h.lv];have:=qjC h.vp hd (o c) (qg6 h.vp) j g _ _ ⟨post,by rw[qBL,u];exact e⟩ (by rwa[qBL]) hi;rw[qBL]at this;rw[<- this];unfold Jb;rw[h.lv]
 rw[if_neg c];have:=qjz h.vp s.R j g _ (fun i hi=>km h.vp (by rw[e];simp[hi])) w;rw[<- this];unfold Vz;rw[qCN];rfl
noncomputable def qat(p:Problem)(fx:Nat->Option Nat)(a:List Int)(gi:Nat):Nat:=WW p (qt p).1 fx ((NG p).getD gi []) (((NG p).take gi).flatten.map fun i=>(i,aN a i))
noncomputable def Jx(p:Problem)(gi:Int)(a:List Int):Int×Int :=
 if gi<0\/((NG p).length:Int)<=gi\/qT p.vars a=false then(0,1)
 else if qat p (fun _=>none) a gi.toNat=0 then(0,11) else if qat p (fun _=>none) a gi.toNat=lim then(0,3) else(qat p (fun _=>none) a gi.toNat,0)
noncomputable def chP(p:Problem)(a:List Int)(gi:Nat):List Nat->(Nat->Option Nat)->Int->List Int->List Int
 |[],_,_,out=>out
 | i::r,fx,b,out=>
  let q:=yz (fun x=>qat p (yT fx i x) a gi) (2^wdN p i) 0 b
  chP p a gi r (yT fx i q.1) q.2 (out.set i q.1)
noncomputable def ky(p:Problem)(gi:Nat)(a:List Int)(b:Int):List Int:=chP p a gi (ka ((NG p).getD gi [])) (fun _=>none) b a
noncomputable def qgD(p:Problem):List Nat->List Int->Rng->List Int×Rng×Int
 |[],a,r=>(a,r,0)
 | gi::rest,a,r=>
  if(Jx p gi a).2≠0 then([],(0,0),(Jx p gi a).2)
  else if(yZ (Jx p gi a).1 r).2.2≠0 then([],(0,0),(yZ (Jx p gi a).1 r).2.2)
  else qgD p rest (ky p gi a (yZ (Jx p gi a).1 r).1) (yZ (Jx p gi a).1 r).2.1
noncomputable def zo(p:Problem)(r:Rng):List Int×Rng×Int:=if(qt p).2≠0 then([],(0,0),(qt p).2) else qgD p (List.range (NG p).length) (qZ p.vars) r
def qfr(p i):wdN p i=jG p i:=by
 unfold wdN jG zP;split<;>rename_i h<;>simp[h]
def qf3(F):∀(n x) (a),0<n->x<=(yz F n x a).1/\(yz F n x a).1<x+n
 |0,x,a,h=>absurd h (by omega)
 | n+1,x,a,_=>by
  unfold yz;split
  . exact⟨qBs _,by simp⟩
  split
  . exact⟨qBs _,by simp⟩
  have:=qf3 F n (x+1) (a-F x) (by omega);omega
def KW{F G}:∀(n x) (a),(∀y,x<=y->y<x+n->F y=G y)->yz F n x a=yz G n x a
 |0,x,a,h=>rfl
 | n+1,x,a,h=>by
  unfold yz;rw[h x (qBs _) (by omega),KW n (x+1) _ fun y h1 h2=>h y (by omega) (by omega)]
def qmE.upd{p fx}(h:qmE p fx){i x}(b:x<2^jG p i):qmE p (yT fx i x):=fun k y a=>by
 unfold yT at a;split at a
 . rename_i e;subst e;have:x=y:=by simpa using a
   omega
 exact h k y a
def qwf{s d p a gi}(h:s.p=p)(j:∀fx,qmE p fx->qau s d fx a gi=qat p fx a gi):∀(l) (fx) (b) (out),qmE p fx->chS s d a gi l fx b out=chP p a gi l fx b out:=by
 intro l
 induction l with
 |nil=>intro fx b out _;rfl
 | cons i r ih=>
  intro fx b out c;have e:yz (fun x=>qau s d (yT fx i x) a gi) (2^wdN s.p i) 0 b=yz (fun x=>qat p (yT fx i x) a gi) (2^wdN p i) 0 b:=by
   rw[h];refine KW _ _ _ fun y _ f=>j _ (c.upd ?_)
   rw[qfr]at f;omega
  have g:=qf3 (fun x=>qat p (yT fx i x) a gi) (2^wdN p i) 0 b (qDt _);rw[qfr]at g;unfold chS chP;dsimp only;rw[e];rw[qfr]at *;exact ih _ _ _ (c.upd (by omega))
def J4{p}(h:qg p=0){a}(b:qT p.vars a=true):a.length=p.vars.length/\∀i∈(NG p).flatten,aN a i<2^jG p i:=by
 unfold qT at b;simp only[qBq,decide_eq_true_eq]at b;refine⟨b.1,fun i hi=>?_⟩;obtain⟨v,c,j⟩:=km h hi;have g:=(qBk.1 c).1;obtain⟨x,d⟩:∃x,a[i]?=some x:=⟨_,qBm (by omega)⟩;have e:(v,x)∈p.vars.zip a:=qBl (i:=i) (qCA.2 ⟨c,d⟩);have h1:=qBx.1 b.2 _ e;unfold jE at h1;simp at h1;have f:((2^v.width.toNat:Nat):Int)=(2:Int)^v.width.toNat:=by simp
 unfold aN;rw[qBw,d,(qq2 h c).1];dsimp only[Option.getD];omega
structure SpR(p)(s:Spc)(d):Prop where
 pe:s.p=p
 R:s.R=(qt p).1
 v:SpV s d
 root:s.small=true->∀b,evD d b s.root=yX p.vars (qt p).1 (Zi p.vars (qS p) b)
def SpR.sum{p s d}(h:SpR p s d){a}(e:qT p.vars a=true){gi}(i:gi<(NG p).length)(fx)(g:qmE p fx):qau s d fx a gi=qat p fx a gi:=by
 obtain⟨f,b,c,j⟩:=h;subst f;have:=qrl c (by rwa[b]) g (J4 c.vp e).2 i;rw[this,b];rfl
def SpR.tot{p s d}(h:SpR p s d)(gi a):Vn s d gi a=Jx p gi a:=by
 unfold Vn Jx;rw[h.pe];split
 . rfl
 rename_i b;have h1:qT p.vars a=true:=by
  cases hA:qT p.vars a with
  |true=>rfl
  |false=>exact absurd (.inr (.inr hA)) b
 have h2:gi.toNat<(NG p).length:=by
  have:¬gi<0:=fun e=>b (.inl e)
  have:¬((NG p).length:Int)<=gi:=fun e=>b (.inr (.inl e))
  omega
 rw[h.sum h1 h2 _ (fun i x c=>by cases c)]
def SpR.ch{p s d}(h:SpR p s d){a}(c:qT p.vars a=true){gi}(g:gi<(NG p).length)(b):qbn s d gi a b=ky p gi a b:=by
 unfold qbn ky;rw[qwf h.pe (fun fx f=>h.sum c g fx f) _ _ _ _ (fun i x e=>by cases e),h.pe]
def Yx{n}(h1:1<=n)(r):0<=(yf n r).1/\(yf n r).1<n:=by
 have a:=Q7 (qo6 n) 64 0 r (by omega) (by omega);unfold yf;dsimp only;rw[qCr a.1];exact⟨qEa _ (by omega),qEh _ (by omega)⟩
def qlW(p a gi):∀(l) (fx) (b) (out),(chP p a gi l fx b out).length=out.length
 |[],_,_,_=>rfl
 | i::r,fx,b,out=>by
  unfold chP;dsimp only;rw[qlW p a gi r];simp
def vJ(p gi a b):(ky p gi a b).length=a.length:=qlW _ _ _ _ _ _ _
def qr0:List (Nat×Sch×List Nat):=[(23,.step 0 [4,3,2] (.step 1 [4,3] (.step 2 [4,3] (.step 3 [4] (.step 4 [] (.done))))),[])]
def qxX(q:List Int×Rng×Int)(H:List Blk)(r:AV)(σ':St):Prop:=KpL [] H σ'.H/\∃v b,r=.tup [v,.agg (jt q.2.1),.int .i64 q.2.2]/\qmt b σ'.H v q.1/\H.length<=b
def Kx(d v):qZ (d++[v])=qZ d++[if v.mode=0 then v.value else 0]:=by simp[qZ]
def kN(d):(qZ d).length=d.length:=by simp[qZ]
def qg4(p)(h:VQ p)(f9:p.vars.length<=20)(g2:qg p=0->(NG p).flatten.length<=12)(hb:kj p.vars (qI p)<=18)(hd:p.dists.length<=10000)(h8:p.soft.length<=10000)(f2:∀d∈p.dists,d.weights.length<=1000)(r H T):
 qh prog GG 26 [.agg (qw p),.agg (jt r)] ⟨H,T⟩ (qxX (zo p r) H):=by
 refine qFE ⟨true,qr0,[],[]⟩ func26 ?_;have h4:=qu9 p h f9 hb hd h8 f2;simp[jt];refine qFJ (h4 _ _) ?_;rintro v ⟨D,T1⟩ ⟨M,hr⟩;rcases hr with⟨he,rfl⟩|⟨he,s,d,rfl,hS,hL,g5,E,e4,f3,G,g8⟩
 . have L:zo p r=([],(0,0),(qt p).2):=if_pos he;rw[L];have b2:=M.2 _ _ lk2 (by simp);have c8:=(qBk.1 b2).1;have a7:=qGe.trans M;have L:∀T',qxX ([],(0,0),(qt p).2) H (.tup [.sl 0 [] .nil,.agg [.int .u64 0,.int .u64 0],.int .i64 (qt p).2]) ⟨D.set (H.length+2) (.cells [.int .u64 0,.int .u64 0]),T'⟩:=fun T'=>⟨a7.setF (by omega),_,H.length,rfl,.inl ⟨rfl,_,_,rfl⟩,qBs _⟩
   simp[-getElem?_pos,he,b2,c8];exact L _
 have L:zo p r=qgD p (List.range (NG p).length) (qZ p.vars) r:=if_neg (by simp[he]);rw[L];have hR:SpR p s d:=⟨E,e4,G,g8⟩;have bx:=M.2 _ _ lk0 (by simp);have b1:=M.2 _ _ lk1 (by simp);have b2:=M.2 _ _ lk2 (by simp);have c8:=(qBk.1 b2).1;have a7:=qGe.trans M;by_cases b6:p.vars=[]
 . have c0:NG p=[]:=by
    have h1:=qg7 G.vp;rw[E,b6]at h1;have h2:∀g∈NG p,g≠[]:=fun g hg=>by
     obtain⟨g',f7,rfl⟩:=qBH.1 hg;have:=(jI (E▸G.vp)).1 g' f7;simpa using this
    cases hN:NG p with
    |nil=>rfl
    | cons g t=>
     rw[hN]at h1 h2;have:=h2 g (by simp);simp at h1;exact absurd h1.1 this
   have i5:p.groups=[]:=(by simpa[NG] using c0);rw[c0,b6];have L:∀T',qxX ([],r,0) H (.tup [.sl 1 [] .tight,.agg [.int .u64 r.1,.int .u64 r.2],.int .i64 0]) ⟨D.set (H.length+2) (.cells [.int .u64 r.1,.int .u64 r.2]),T'⟩:=fun T'=>⟨a7.setF (by omega),_,H.length,rfl,.inl ⟨rfl,_,_,rfl⟩,qBs _⟩
   simp[*,qz,mkX];refine qFL (fun m ev σ=>ev 2=.ptr H.length 0/\ev 3=.ptr (H.length+1) 0/\ev 5=.ptr (H.length+2) 0/\ev 9=.sl 1 [] .tight/\ev 31=.int .i64 0/\ev 32=.int .i64 0/\∃T',σ=⟨D,T'⟩) 0 ?_ ?_
   . exact⟨by simp,by simp,by simp,by simp,by simp,by simp,_,rfl⟩
   rintro m ev σ R0 a8 ⟨e2,f,A,l,R,V,T2,rfl⟩;simp[*];refine qFL (fun m ev σ=>ev 3=.ptr (H.length+1) 0/\ev 5=.ptr (H.length+2) 0/\ev 9=.sl 1 [] .tight/\ev 48=.int .i64 0/\ev 49=.int .i64 0/\σ=⟨D,T2⟩) 0 ?_ ?_
   . exact⟨by simp[f],by simp[A],by simp[l],by simp⟩
   rintro m ev σ R1 c5 ⟨f,A,l,a6,a1,rfl⟩;simp[*];rw[qG rfl];simp[*,-getElem?_pos,qX];exact L _
 obtain⟨n,B⟩:∃n,n=p.vars.length:=⟨_,rfl⟩;have i3:0<n:=by rw[B];exact qBA.2 b6
 have i7:¬(n:Int)=0:=by omega
 have c6:=qa bx [.cells (List.replicate n (.int .i64 0))];have e1:=G.vq.vars;rw[E,<- B]at e1;have hz:List.replicate n (AV.int .i64 0)=zc (qZ []++List.replicate n 0):=by simp[zc,qZ]
 rw[hz]at c6;simp[bx,<- B,show n≠0 by omega,show(n:Int)<=549755813888 by omega,qz,mkX,hz,c6];refine qFW p.vars (fun b ev σ=>ev 2=.ptr H.length 0/\ev 3=.ptr (H.length+1) 0/\ev 5=.ptr (H.length+2) 0/\ev 7=.ptr s.S 0/\ev 9=.ms D.length 0 n 1/\ev 30=.sl 4 (p.vars.map qu) .none/\ev 31=.int .i64 n/\ev 32=.int .i64 b.length/\KpL [] D σ.H/\σ.H[D.length]?=some (.cells (zc (qZ b++List.replicate (n-b.length) 0)))) ?_ ?_ ?_
 . exact⟨by simp,by simp,by simp,by simp,by simp,by simp,by simp,by simp,qGe,by simp[qZ]⟩
 . rintro b v rest ev ⟨H2,T2⟩ R0 a8 i9 hx e0 ⟨e2,f,A,I,l,Z,R,V,F,U⟩;dsimp only at F U;rw[<- B]at e0;have c3:(b.length:Int)<n:=(by omega);have d6:b.length+1<=n:=(by omega);have d1:=wr (n:=(b.length:Int)+1);have d8:(qZ b++List.replicate (n-b.length) 0).length=n:=(by simp[kN];omega);have b4:∀w,(H2++w)[D.length]?=_:=fun w=>qa U w
   obtain⟨j,Q⟩:∃j,n-b.length=j+1:=⟨n-b.length-1,by omega⟩;have h7:∀x,(qZ b++List.replicate (n-b.length) 0).set b.length x=qZ b++[x]++List.replicate (n-(b++[v]).length) 0:=fun x=>by
    rw[qCd _ _ (by rw[kN];exact qBs _),kN,qCh,Q];simp[qCK];have:n-(b.length+1)=j:=by omega
    rw[this]
   have f4:qZ b++List.replicate (n-b.length) 0=qZ b++[0]++List.replicate (n-(b++[v]).length) 0:=by
    rw[Q];have:n-(b++[v]).length=j:=by simp;omega
    rw[this];simp[qCK]
   have j1:=(qBk.1 U).1;by_cases K:v.mode=0
   . simp[l,Z,R,V,c3,hx,qu,K,d1,b4,d6,qO,d8,yR];refine a8 _ _ ⟨by simp[e2],by simp[f],by simp[A],by simp[I],by simp[l],by simp[Z],by simp[R],by simp,(F.trans qGe).setF (qBs _),?_⟩;dsimp only;rw[qBo (by simp;omega),Kx,if_pos K,h7]
   simp[l,Z,R,V,c3,hx,qu,K,d1,b4,d6,qO,d8,yR];refine a8 _ _ ⟨by simp[e2],by simp[f],by simp[A],by simp[I],by simp[l],by simp[Z],by simp[R],by simp,F.trans qGe,?_⟩;dsimp only;rw[b4,Kx,if_neg K,f4]
 rintro ev ⟨H2,T2⟩ ⟨e2,f,A,I,l,Z,R,V,F,U⟩;rw[<- B]at V;have i6:=F.2 _ _ bx (by simp);simp[*];have f6:=F.2 _ _ b1 (by simp);have d9:=F.2 _ _ b2 (by simp);have g0:=a7.trans F;have g3:=M.1;simp only[qBp,qBB,qCc]at g3;have b9:=f3.keep F (by simp) (by simp) (by simp);have i2:=(qBk.1 b9.c).1;obtain⟨m,K⟩:∃m,m=(NG p).length:=⟨_,rfl⟩;have i4:m<=1000:=by
  have:=(J7 (E▸G.vp) (by rwa[<- B])).2;omega
 obtain⟨a3,d7⟩:∃a3,a3=qgD p (List.range m) (qZ p.vars) r:=⟨_,rfl⟩;rw[<- K,<- d7];refine qFL (fun k ev σ=>ev 3=.ptr (H.length+1) 0/\ev 5=.ptr (H.length+2) 0/\ev 7=.ptr s.S 0/\ev 48=.int .i64 m /\
  ∃(i N:Nat) (a:List Int) (C:Rng),k=m-i/\i<=m/\ev 49=.int .i64 i/\ev 9=.ms N 0 n 1/\a.length=n/\D.length<=N/\σ.H[N]?=some (.cells (zc a))/\KpL [] H σ.H/\σ.H[H.length+1]?=some (.cells (jt C))/\σ.H[H.length+2]?=some (.cells (jt (0,0)))/\SpOk s σ.H/\qgD p (List.range' i (m-i)) a C=a3) m ?_ ?_
 . exact⟨by simp[f],by simp[A],by simp[I],by simp[show p.groups.length=m by rw[K];simp[NG]],0,D.length,qZ p.vars,r,rfl,by omega,by simp,by simp[l],by rw[kN,B],qBs _,(by rw[U];simp[<- B]),g0,f6,d9,b9,by rw[d7,qCF];rfl⟩
 rintro k ev ⟨H3,T3⟩ R1 c5 ⟨f,A,I,a6,i,N,a,C,rfl,i8,a1,l,W,i1,hN,b0,a2,Y,b8,u⟩;dsimp only at hN b0 a2 Y b8;have g7:=(qBk.1 Y).1;have c2:AsR (.ms N 0 n 1) a H3:=.inr ⟨N,by rw[W],hN⟩;by_cases hi:i<m
 . have b5:(i:Int)<m:=(by omega);have f5:=wr (n:=(i:Int)+1);obtain⟨j,Q⟩:∃j,m-i=j+1:=⟨m-i-1,by omega⟩;rw[Q,qC0,qgD]at u;have ht:=qrh G (i:Int) b8 c2 T3;rw[hR.tot]at ht;have d0:i<(NG p).length:=(by omega);simp[I,l,a6,a1,b5];refine qFJ ht ?_;rintro v ⟨H4,T4⟩ ⟨rfl,O⟩;dsimp only at O;have a4:=O.2 _ _ a2 (by simp);have a5:=O.2 _ _ Y (by simp);have f8:=(qBk.1 a5).1;have h3:=b8.keep O (by simp) (by simp) (by simp);have f0:=c2.keep O (by simp);have d5:=b0.trans O;have h6:∀(J:Int) (T':List (Option Nat)) (X:List Blk),(∀(j:Nat) (y:Blk),H4[j]?=some y->X[j]?=some y)->H4.length<=X.length->qxX ([],(0,0),J) H (.tup [.sl 0 [] .nil,.agg [.int .u64 0,.int .u64 0],.int .i64 J]) ⟨X.set (H.length+2) (.cells [.int .u64 0,.int .u64 0]),T'⟩:=fun J T' X hX h5=>
    ⟨KpL.setF (d5.trans ⟨h5,fun j y Q _=>hX j y Q⟩) (by omega),_,H.length,rfl,.inl ⟨rfl,_,_,rfl⟩,qBs _⟩
   simp only[jt]at a4 a5;obtain⟨t,J,c4⟩:∃t J,Jx p (i:Int) a=(t,J):=⟨_,_,rfl⟩;rw[c4]at u⊢;dsimp only at u⊢;by_cases a9:J=0
   . subst a9;rw[if_neg (by simp)]at u;have g1:qT p.vars a=true/\1<=t/\t<lim:=by
      have h0:=c4;unfold Jx at h0;split at h0
      . simp at h0
      rename_i d4;split at h0
      . simp at h0
      split at h0
      . simp at h0
      have h9:qat p (fun _=>none) a (i:Int).toNat<=lim:=by
       cases P:qT p.vars a with
       |false=>exact absurd (.inr (.inr P)) d4
       |true=>rw[<- hR.sum P (by simpa using d0) _ (fun i x hx=>by cases hx)];exact qrk _ _ _ _ _
      refine⟨?_,?_⟩
      . cases P:qT p.vars a with
        |false=>exact absurd (.inr (.inr P)) d4
        |true=>rfl
      have:t=(qat p (fun _=>none) a (i:Int).toNat:Nat):=by
       have:=congrArg Prod.fst h0;exact this.symm
      omega
     obtain⟨P,g4,i0⟩:=g1;have j2:lim=1099511627777:=rfl;have hB:=qtB t C;rw[show yZ t C=((yf t C).1,(yf t C).2,0) from if_neg (by omega)]at u hB;simp only[qiT,jt]at hB;dsimp only at u;rw[if_neg (by simp)]at u;obtain⟨f1,j0⟩:=Yx g4 C;generalize yf t C=q at *;have e6:=(qBk.1 a4).1;simp[f,a4];refine qFG hB ?_ rfl;simp[f,I,l,a4];have c9:KpL [H.length+1] H4 (H4.set (H.length+1) (.cells [.int .u64 q.2.1,.int .u64 q.2.2])):=⟨by simp,fun k x hk B=>by rw[qBn (by simp at B;omega)];exact hk⟩;simp only[qBp,qBB,qCc]at hS hL g5;have c1:=h3.keep c9 (by simp;omega) (by simp;omega) (by simp;omega);have g9:=f0.keep c9 (by rintro N' o n' z e;cases e;simp;omega);have b7:=qpe G (E▸g2 (E▸G.vp)) (gi:=i) (by rwa[E]) (WP G.vp (by rwa[E])) (by rwa[E,<- B]) c1 g9 T4 f1 (by omega);rw[hR.ch P d0]at b7;obtain⟨out,d2⟩:∃out,out=ky p i a q.1:=⟨_,rfl⟩;rw[<- d2]at b7 u;refine qFJ b7 ?_;rintro v ⟨H6,T6⟩ ⟨a0,N',rfl,e8,c7⟩;dsimp only at a0 c7;have d3:out.length=n:=by
      rw[d2,vJ,W]
     simp[a1,f5];refine c5 (m-(i+1)) _ _ (by omega) ⟨by simp[f],by simp[A],by simp[I],by simp[a6],i+1,N',out,q.2,rfl,by omega,by simp,by simp[d3],d3,?_,c7,(d5.setF (by omega)).trans a0,a0.2 _ _ (qBo e6) (by simp),a0.2 _ _ (by rw[qBn (by omega)];exact a5) (by simp),c1.keep a0 (by simp) (by simp) (by simp),?_⟩
     . have:=O.1;have:=(qBk.1 hN).1;simp at e8;omega
     rw[<- u];have:m-(i+1)=j:=by omega
     rw[this]
   rw[if_pos a9]at u;rw[<- u];simp[-getElem?_pos,f,A,a9,a5,f8];exact h6 J _ H4 (fun _ _ h=>h) (qBs _)
 have b5:¬(i:Int)<m:=by omega
 rw[show m-i=0 by omega]at u;have g6:a3=(a,C,0):=u.symm;rw[g6];simp only[jt]at a2 Y;simp[a6,a1,b5];rw[qG rfl];simp[-getElem?_pos,qX,f,A,l,a2,Y,g7];refine⟨b0.setF (by omega),_,N,rfl,.inr ⟨fun e=>by dsimp only at e;rw[e]at W;simp at W;omega,by dsimp only;rw[W],?_⟩,by omega⟩;dsimp only
 rwa[qBn (by omega)]
end Go.Proofs.YtdapogpjhljhaaaGreatDoor
namespace Go.Abs
open Go Go.RowKit
def Pure.ofA{P G f args r Q}(h:qh P (qW G) f args ⟨[],[]⟩ Q)(d:∀v σ',Q v σ'->qE (frz σ'.H 8 v)=true/\Leq (frz σ'.H 8 v) r):Pure P G f args r:=by
 refine⟨h.1,?_⟩;intro w0 ro vs a m t;have u:WRel (qW G) w0 ro (K0 ro) ⟨[],[]⟩ w0:=⟨Below.refl _ _,a,m,fun b o v e _=>e,by simp,fun _ _ _ e=>by simp[K0]at e,fun _ _ e=>by simp[K0]at e,by simp,fun _ _ e=>by simp[K0]at e,
  fun _ _ _ _ e=>by simp[K0]at e,rfl,fun _ _ _ _ _ e=>by simp[K0]at e,fun _ _ e=>by simp[K0]at e,fun _ _ e=>by simp[K0]at e⟩
 refine(h.2 w0 ro (K0 ro) w0 vs u t).mono ?_;rintro e w' (⟨v',v,σ',K',rfl,h1,h2,w,l⟩|⟨c,σ',K',rfl,h1,h2,g⟩)
 . obtain⟨j,i⟩:=h2.end_ro;obtain⟨x,s⟩:=d v σ' l;exact⟨v',Qi w0 w' K'.ro,rfl,h2.below,fun b o v e=>YS _ _ _ _ _ _ (h1.ro b o v e),j,i,qFM _ _ s (qld h2 8 w)⟩
 exact g.elim
end Go.Abs
namespace Go.Proofs.YtdapogpjhljhaaaGreatDoor
open Go Go.Abs Proofs.Tryz Go.ChangeShapes Go.WideShapes Go.ChangeAt Go.RowKit
def qmt.frz{b H v a}(h:qmt b H v a)(n):qE (Abs.frz H (n+1) v)=true/\Leq (Abs.frz H (n+1) v) (.sl 1 (a.map qf) .none)/\(qE v=true->Leq v (.sl 1 (a.map qf) .none)):=by
 rcases h with⟨rfl,sz,tok,rfl⟩|⟨h0,rfl,hb⟩
 . have h1:∀t,Leq (.sl sz [] t) (.sl 1 (([]:List Int).map qf) .none):=fun t=>by simp[Leq]
   refine⟨?_,?_,fun _=>h1 _⟩
   . unfold Abs.frz;split
     . assumption
     simp
   unfold Abs.frz;split
   . exact h1 _
   simp
 have c:ja b 1 qf H (.ms b 0 a.length 1) a:=.inr ⟨h0,rfl,by rw[hb,jD]⟩;exact⟨c.frzNo (fun _=>rfl) (fun _=>rfl) (fun _=>rfl) n,c.frz (fun _=>rfl) (fun _=>rfl) (fun _=>rfl) n,fun h=>by simp[qE]at h⟩
noncomputable def qtI(q:List Int×Rng×Int):AV:=.tup [.sl 1 (q.1.map qf) .none,.agg (jt q.2.1),.int .i64 q.2.2]
def Zb(p:Problem)(e:Ex):Problem:={p with hard:=p.hard++[e]}
def qag(p e):(Zb p e).vars=p.vars/\(Zb p e).soft=p.soft/\(Zb p e).dists=p.dists/\(Zb p e).groups=p.groups:=⟨rfl,rfl,rfl,rfl⟩
def qzC(l:List Ex)(H:List Blk)(t:Nat)(r:AV)(σ':St):Prop:=σ'.H=H/\((l=[]/\(r=.sl 0 [] .nil\/r=.sl 4 [] .tight))\/(l≠[]/\r=.sl 4 (l.map qo) (.chain t l.length)))/\(l≠[]->σ'.T[t]?=some (some l.length))
def qpc(l)(a:l.length<=1000000)(H T):qh prog GG 53 [.sl 4 (l.map qo) .none] ⟨H,T⟩ (qzC l H T.length):=by
 refine qFE o0 func53 ?_;by_cases h0:l=[]
 . subst h0;simp[qzC,qm,qR]
 obtain⟨e,r,rfl⟩:=qDF h0;simp[qzC,qm,qR,qe,show r.length+1<=549755813888 by simp at a;omega]
def qrZ:List (Nat×Sch×List Nat):=[(1,.step 0 [7,6,5,2,1] (.step 1 [7,6,5,2] (.fork (.cons 2 (.step 3 [7,6,5,4] (.step 4 [7,6,5] (.step 5 [7,6] (.step 6 [7] (.step 7 [] (.done)))))) (.cons 3 (.step 4 [7,6,5] (.step 2 [7,6,5] (.step 5 [7,6] (.step 6 [7] (.step 7 [] (.done)))))) (.nil))))),[2])]
def qct(p e)(s:p.hard.length<=100000):Pure prog GG 23 [.agg (qw p),.agg (qo e)] (.agg (qw (Zb p e))):=by
 refine qFC ⟨false,qrZ,[],[]⟩ false func23 ?_;have o:=fun H T=>qpc p.hard (by omega) H T
 have a:=jq e;have d:=qiX e;have b:=zg e;have c:(qo e).take 4=qo e:=qBr (by rw[b];exact qBs _);have l:qM (p.hard.map qo++[qo e])=true:=by
  have h:qM ((p.hard++[e]).map qo)=true:=zj (fun x=>qiX x) _
  rwa[qCl]at h
 have m:p.hard.length<=549755813887:=by omega
 simp only[qw];rw[show(Zb p e).hard.map qo=p.hard.map qo++[qo e] by simp[Zb]];generalize qo e=W at *;simp[-qL,a,qtp];rw[qG rfl];simp[-qL,a,b,c,qX];refine⟨qFJ (o _ _) ?_,?_⟩
 . rintro v ⟨r,f⟩ ⟨rfl,i,j⟩;rcases i with⟨h0,rfl|rfl⟩|⟨h0,rfl⟩
   . simp[-qL,a,b,c,qX,h0,qm,qR,qag,d]
   . simp[-qL,a,b,c,qX,h0,qm,qR,qag,d]
   have g:f[0]?=some (some p.hard.length):=j h0;simp[-qL,a,b,c,qX,h0,g,m,l,qm,qR,qag]
 refine qFJ (o _ _) ?_;rintro v ⟨r,f⟩ ⟨rfl,i,j⟩;rcases i with⟨h0,rfl|rfl⟩|⟨h0,rfl⟩
 . simp[-qL,qX,h0,qm,qR,qag,d]
 . simp[-qL,qX,h0,qm,qR,qag,d]
 have g:f[0]?=some (some p.hard.length):=j h0;simp[-qL,qX,h0,g,m,l,qm,qR,qag]
def qcs(p:Problem){v:Var}{i:Nat}(hi:p.vars[i]?=some v)(G:Fits p.vars)(F:p.hard.length<=100000)(l:List Int)(E:l.length<=256)(u:∀n∈l,0<=n/\n<=65535)(C:(jr l).length<=96):
 Pure prog GG 30 [.agg (qw p),.int .i64 i,.sl 1 (l.map qf) .none] (.agg (qw (Zb p (qtK v.name l)))):=by
 refine qFD func30 ?_;have h1:=qbz v.name 9 8 l (by omega) (by omega) (by unfold Fits;omega);have D:=(qBk.1 hi).1;have j:(i:Int)<p.vars.length:=by omega
 have t:∀e,qM (p.hard.map qo++[qo e])=true:=fun e=>by
  have h:qM ((p.hard++[e]).map qo)=true:=zj (fun x=>qiX x) _
  rwa[qCl]at h
 have A:∀e,zC [.int .i64 0,.int .i64 0,.str [],.sl 0 [] .nil] 0 (qo e)=qo e:=fun e=>putAt_all _ _ (by simp[zg])
 have z:∀x e,x.length=4->zC x 0 (qo e)=qo e:=fun x e h=>putAt_all _ _ (by simp[zg,h])
 have r:∀e,(qo e).take 4=qo e:=fun e=>qBr (by rw[zg];exact qBs _)
 have w:∀e,qw (Zb p e)=[.sl 4 (p.vars.map qu) .none,.sl 4 (p.hard.map qo++[qo e]) .none,.sl 4 (p.soft.map qo) .none,.sl 2 (p.dists.map zu) .none,.sl 1 (p.groups.map qn) .none]:=fun e=>by simp[Zb]
 rw[w];unfold qtK;have d:=jq (amE v.name 9 l);have a:=zg (amE v.name 9 l);have c:=r (amE v.name 9 l);have o:=t (amE v.name 9 l);have g:=A (amE v.name 9 l);have B:=qiX (amE v.name 9 l);have m:p.hard.length<=549755813887:=by omega
 have s:p.hard.length<=549755813888:=by omega
 simp only[qw];by_cases f:l.length<=20
 . rw[if_pos f];have b:¬(20:Int)<l.length:=(by omega);generalize qo (amE v.name 9 l)=W at *;simp[-qL,hi,j,qu];refine qFG h1 ?_;by_cases h0:p.hard=[]
   . simp[-qL,d,a,c,o,g,B,b,h0,qm,qR]
   simp[-qL,d,a,c,o,g,b,h0,m,s,qm,qR]
 rw[if_neg f];have b:(20:Int)<l.length:=by omega
 have h2:=qn4 v.name l (by rintro rfl;simp at f) (by omega) u C;have b1:=jq (zT v.name (jr l));have b2:=zg (zT v.name (jr l));have b3:=r (zT v.name (jr l));have b4:=t (zT v.name (jr l));have y:=qiX (zT v.name (jr l));have b5:=z (qo (amE v.name 9 l)) (zT v.name (jr l)) a;generalize qo (amE v.name 9 l)=W at *;generalize qo (zT v.name (jr l))=X at *;simp[-qL,hi,j,qu];refine qFG h1 ?_;simp[-qL,d,a,c,g,b,hi,j,qu];refine qFG h2 ?_;by_cases h0:p.hard=[]
 . simp[-qL,b1,b2,b3,b4,b5,y,a,b,h0,qm,qR]
 simp[-qL,b1,b2,b3,b4,b5,a,b,h0,m,s,qm,qR]
noncomputable def yO(p:Problem)(R:List Ex)(fx:Nat->Option Nat):List Nat->List (Nat×Nat)->Nat
 |[],c=>if okC p R c=true then 1 else 0
 |i::r,c=>jl (fun v=>wtP p i v*yO p R fx r (c++[(i,v)])) (wP (jG p i) (fx i))
def qsf{p R c d}(h:okC p R (c++d)=true):okC p R c=true:=by
 unfold okC at h⊢;obtain⟨a,e,b⟩:=qBM.1 h;rw[qBq,qCU,qBq]at b;exact qBM.2 ⟨a,e,by rw[qBq];exact⟨b.1,b.2.1⟩⟩
def Vm{p R fx}:∀(g) (c),okC p R c≠true->yO p R fx g c=0
 |[],c,h=>if_neg h
 | i::r,c,h=>by
  unfold yO;refine ZS fun v _=>?_
  rw[Vm r _ (fun h'=>h (qsf h')),Nat.mul_zero]
def quM(w t)(h:w<=lim):sat (w*sat t)=sat (w*t):=by
 have:=qrA w t;have e:sat w=w:=qC9 h
 rwa[e]at this
def qgH{α}(w t:α->Nat)(a:∀x,w x<=lim):∀(l) (s),l.foldl (fun s v=>sat (s+sat (w v*sat (t v)))) (sat s)=sat (s+jl (fun v=>w v*t v) l)
 |[],s=>by simp[jl]
 | x::l,s=>by
  rw[qB2,quM _ _ (a x),qrB,qgH w t a l];simp only[jl];rw[qDu]
def qcb{p R fx}:∀(g:List Nat) (c:List (Nat×Nat)),WW p R fx g c=sat (yO p R fx g c)
 | [],c=>by
  unfold WW yO;split<;>rfl
 | i::r,c=>by
  by_cases h:okC p R c=true
  . unfold WW yO;rw[if_pos h];have e:(fun s v=>sat (s+sat (wtP p i v*WW p R fx r (c++[(i,v)]))))=(fun s v=>sat (s+sat (wtP p i v*sat (yO p R fx r (c++[(i,v)]))))):=by
     funext s v;rw[qcb r]
    rw[e];have:=qgH (fun v=>wtP p i v) (fun v=>yO p R fx r (c++[(i,v)])) (fun v=>qi5 p i v) (wP (jG p i) (fx i)) 0;rw[qDb]at this;exact this
  rw[Vm _ _ h];unfold WW;rw[if_neg h];rfl
def Kw{α β}(F:α->β->Nat):∀(l) (m),jl (fun v=>jl (fun x=>F v x) m) l=jl (fun x=>jl (fun v=>F v x) l) m
 |[],m=>by simp only[jl];exact(ZS fun _ _=>rfl).symm
 | a::l,m=>by
  simp only[jl];rw[Kw F l m]
  induction m with
  |nil=>rfl
  |cons x m ih=>simp only[jl];omega
def Kt{p R fx a}:∀(g) (c),(∀i∈g,fx i=a i)->yO p R fx g c=yO p R a g c
 |[],_,_=>rfl
 | i::r,c,h=>by
  unfold yO;rw[h i (by simp)];refine yC fun v _=>?_
  rw[Kt r _ fun k b=>h k (by simp[b])]
def Kp{fx i k x}(h:k≠i):yT fx i x k=fx k:=if_neg h
def qd8{fx i x}:yT fx i x i=some x:=if_pos rfl
def Ks{p R fx i}(d:fx i=none):∀(g:List Nat) (c:List (Nat×Nat)),g.Nodup->i∈g->yO p R fx g c=jl (fun x=>yO p R (yT fx i x) g c) (List.range (2^jG p i))
 | j::r,c,b,hi=>by
  rw[qC7]at b;by_cases a:j=i
  . subst a;unfold yO;rw[d];show jl _ (List.range _)=_;refine yC fun x _=>?_
    rw[qd8];show _=jl _ [x];simp only[jl,qCV];rw[Kt r _ fun k f=>(Kp (fx:=fx) (x:=x) (i:=j) (by rintro rfl;exact b.1 f)).symm]
  have h:i∈r:=(qBN.1 hi).resolve_left (Ne.symm a);unfold yO;have e:∀x,wP (jG p j) (yT fx i x j)=wP (jG p j) (fx j):=fun x=>by rw[Kp a]
  simp only[e];rw[<- Kw];refine yC fun v _=>?_
  rw[Ks d r _ b.2 h,<- qav]
noncomputable def jN(p:Problem)(val:Nat->Nat):List Nat->Nat
 |[]=>1
 |i::r=>wtP p i (val i)*jN p val r
def VI(F):∀(n x:Nat) (a:Int),0<=a->a<(jl F (List.range' x n):Nat) ->
 (x<=(yz F n x a).1/\(yz F n x a).1<x+n)/\0<=(yz F n x a).2/\(yz F n x a).2<(F (yz F n x a).1:Nat)/\a=(jl F (List.range' x ((yz F n x a).1-x)):Nat)+(yz F n x a).2
 |0,x,a,h0,h=>by simp[jl]at h;omega
 | n+1,x,a,h0,h=>by
  rw[qC0]at h;simp only[jl]at h;unfold yz;by_cases h1:a<(F x:Nat)
  . rw[if_pos h1];refine⟨⟨qBs _,by omega⟩,h0,h1,?_⟩;simp[jl]
  rw[if_neg h1];by_cases b:n=0
  . subst b;simp[jl]at h;omega
  rw[if_neg b];have ih:=VI F n (x+1) (a-(F x:Nat)) (by omega) (by omega);obtain⟨⟨i,f⟩,d,c,g⟩:=ih;generalize yz F n (x+1) (a-(F x:Nat))=q at *;refine⟨⟨by omega,by omega⟩,d,c,?_⟩;have e:q.1-x=(q.1-(x+1))+1:=by omega
  rw[e,qC0];simp only[jl];omega
def Kv(p fx a gi):qat p fx a gi=sat (yO p (qt p).1 fx ((NG p).getD gi []) (((NG p).take gi).flatten.map fun i=>(i,aN a i))):=qcb _ _
def K1{α:Type}[DecidableEq α]:∀{a b:List α},a.Nodup->(∀x∈a,x∈b)->a.length<=b.length
 |[],_,_,_=>by simp
 | x::a,b,c,e=>by
  rw[qC7]at c;have d:=e x (by simp);have h1:a.length<=(b.erase x).length:=K1 c.2 fun y f=>by
   have g:y≠x:=(by rintro rfl;exact c.1 f);exact(List.mem_erase_of_ne g).2 (e y (by simp[f]))
  rw[qEf d]at h1;have:=qFa d;simp only[qBB];omega
def VR{α:Type}[DecidableEq α]:∀{b a:List α},a.Nodup->(∀x∈a,x∈b)->b.length<=a.length->b.Nodup
 |[],_,_,_,_=>List.nodup_nil
 | x::b,a,d,f,g=>by
  have e:x∉b:=fun e=>by
   have:=K1 d (b:=b) fun y c=>by
    rcases qBN.1 (f y c) with rfl|h
    . exact e
    exact h
   simp at g;omega
  refine qC7.2 ⟨e,VR (d.erase x) (fun y c=>?_) ?_⟩
  . rw[d.mem_erase_iff]at c;exact(qBN.1 (f y c.2)).resolve_left c.1
  have:=List.length_erase (a:=x) (l:=a);simp only[qBB]at g;split at this<;>omega
def qeg{g}(h:g.Nodup):(ka g).Nodup:=VR h (fun x a=>wS.2 a) (by rw[qcg];exact qBs _)
def Ze(p:Problem)(a:List Int)(gi:Nat):List (Nat×Nat):=((NG p).take gi).flatten.map fun i=>(i,aN a i)
def qrj{p}{gi:Nat}{a}(h:(Jx p gi a).2=0):gi<(NG p).length/\qT p.vars a=true/\(Jx p gi a).1=(yO p (qt p).1 (fun _=>none) ((NG p).getD gi []) (Ze p a gi):Nat)/\0<yO p (qt p).1 (fun _=>none) ((NG p).getD gi []) (Ze p a gi)/\yO p (qt p).1 (fun _=>none) ((NG p).getD gi []) (Ze p a gi)<lim:=by
 unfold Jx at h⊢;split at h
 . cases h
 rename_i b;split at h
 . cases h
 rename_i h1;split at h
 . cases h
 rename_i h2;rw[if_neg b,if_neg h1,if_neg h2];have d:gi<(NG p).length:=by
  have:¬((NG p).length:Int)<=gi:=fun e=>b (.inr (.inl e))
  omega
 have c:qT p.vars a=true:=by
  cases hA:qT p.vars a with
  |true=>rfl
  |false=>exact absurd (.inr (.inr hA)) b
 have e:qat p (fun _=>none) a (gi:Int).toNat=sat (yO p (qt p).1 (fun _=>none) ((NG p).getD gi []) (Ze p a gi)):=Kv _ _ _ _;rw[e]at h1 h2⊢;have f:=quN h2;rw[f]at h1⊢;refine⟨d,c,rfl,qEJ h1,?_⟩;have:=qcn (yO p (qt p).1 (fun _=>none) ((NG p).getD gi []) (Ze p a gi));omega
def qjI{vs l m}(h:∀e,e∈l↔e∈m):jw vs l=jw vs m:=by
 have:∀a,yX vs l a=yX vs m a:=fun a=>by
  unfold yX;rw[qCo,qBx,qBx];exact⟨fun h1 e b=>h1 e ((h e).2 b),fun h1 e b=>h1 e ((h e).1 b)⟩
 unfold jw;congr 1;funext a;exact this a
def Wf(vs):∀(L) (R),jw vs R=true->jw vs (R++(jY vs R L).map (·.2))=true
 |[],R,h=>by simpa[jY] using h
 | x::r,R,h=>by
  unfold jY;split
  . rename_i h1;have:=Wf vs r (R++[x.2]) h1;simpa using this
  exact Wf vs r R h
def kQ{p}(h:(qt p).2=0):qg p=0/\jw p.vars (zw p)=true/\jw p.vars (qt p).1=true/\∀e∈zw p,e∈(qt p).1:=by
 rw[wT]at h;obtain⟨h1,h2,a,_⟩:=Qg h;refine⟨h1,h2,?_,fun e b=>?_⟩
 . rw[a];have:=Wf p.vars (ZB p.soft) (zw p) h2;rw[<- this];refine qjI fun e=>?_
   have c:qeB p=zw p:=by
    unfold qeB zw;have:jB p=yJ p:=if_pos h1;rw[this]
   unfold vS;rw[c];simp
 rw[a];exact qB5 _ b
noncomputable def qhE(p:Problem)(R:List Ex)(fx:Nat->Option Nat)(a:List Int)(gi:Nat):Nat:=WW p R fx ((NG p).getD gi []) (((NG p).take gi).flatten.map fun i=>(i,aN a i))
noncomputable def W3(p:Problem)(R:List Ex)(gi:Int)(a:List Int):Int×Int :=
 if gi<0\/((NG p).length:Int)<=gi\/qT p.vars a=false then(0,1)
 else if qhE p R (fun _=>none) a gi.toNat=0 then(0,11) else if qhE p R (fun _=>none) a gi.toNat=lim then(0,3) else(qhE p R (fun _=>none) a gi.toNat,0)
noncomputable def qtf(p:Problem)(R:List Ex)(a:List Int)(gi:Nat):List Nat->(Nat->Option Nat)->Int->List Int->List Int
 |[],_,_,out=>out
 | i::r,fx,b,out=>
  let q:=yz (fun x=>qhE p R (yT fx i x) a gi) (2^wdN p i) 0 b
  qtf p R a gi r (yT fx i q.1) q.2 (out.set i q.1)
noncomputable def Y9(p:Problem)(R:List Ex)(gi:Nat)(a:List Int)(b:Int):List Int:=qtf p R a gi (ka ((NG p).getD gi [])) (fun _=>none) b a
noncomputable def qeM(p:Problem)(R:List Ex):List Nat->List Int->Rng->List Int×Rng×Int
 |[],a,r=>(a,r,0)
 | gi::rest,a,r=>
  if(W3 p R gi a).2≠0 then([],(0,0),(W3 p R gi a).2)
  else if(yZ (W3 p R gi a).1 r).2.2≠0 then([],(0,0),(yZ (W3 p R gi a).1 r).2.2)
  else qeM p R rest (Y9 p R gi a (yZ (W3 p R gi a).1 r).1) (yZ (W3 p R gi a).1 r).2.1
noncomputable def qjH(p:Problem)(R:List Ex×Int)(r:Rng):List Int×Rng×Int:=if R.2≠0 then([],(0,0),R.2) else qeM p R.1 (List.range (NG p).length) (qZ p.vars) r
def qwg(p a gi):∀(l) (fx) (b) (out),chP p a gi l fx b out=qtf p (qt p).1 a gi l fx b out
 |[],_,_,_=>rfl
 | i::r,fx,b,out=>by
  unfold chP qtf;exact qwg p a gi r _ _ _
def quw(p gi a):Jx p gi a=W3 p (qt p).1 gi a:=rfl
def qlR(p gi a b):ky p gi a b=Y9 p (qt p).1 gi a b:=qwg _ _ _ _ _ _ _
def qqn(p):∀(l) (a) (r),qgD p l a r=qeM p (qt p).1 l a r
 |[],_,_=>rfl
 | gi::rest,a,r=>by
  unfold qgD qeM;rw[quw,qlR,qqn p rest]
def QM{p R}(h:qt p=R)(r):zo p r=qjH p R r:=by
 subst h;unfold zo qjH;rw[qqn]
def Vy{p}(a:qg p=0)(c:p.soft=[])(hd:p.dists=[])(h:jw p.vars p.hard=true):qt p=(p.hard,0):=by
 have d:zw p=p.hard:=by
  unfold zw jB yJ;rw[if_pos a,hd];simp
 have b:qeB p=p.hard:=by
  unfold qeB yJ;rw[hd];simp
 unfold qt;rw[if_pos a,d,if_pos h];unfold Yf vS;rw[b,c];simp[ZB,jY]
def p1:Problem:={vars:=[⟨[97],1,2,0⟩],hard:=[],soft:=[],dists:=[],groups:=[[0]]}
def wA:qg p1=0:=by
 have c:kW [97]=true:=by unfold kW;rw[show jc [97]=true by kernel_rfl];rfl
 have a:jS ⟨[97],1,2,0⟩=0:=by
  unfold jS;rw[c];simp
 have b:yn p1.vars p1.groups:=by
  refine⟨by simp[p1],by simp[p1,yU],by simp[p1],fun i hi _=>?_⟩;simp[p1]at hi⊢;exact hi
 unfold qg;have h1:jd p1.vars=0:=by
  unfold jd;simp[p1,zd,a,qqy,Qz,wK,WX,show wv [97]=none from qaW (by decide),yK]
 rw[h1];unfold zK;rw[if_pos b];simp[p1,zd,yH]
def qaz:qt p1=([],0):=Vy wA rfl rfl (by kernel_rfl)
def qne:zo p1 (1,0)=([1],(1,1),0):=by
 rw[QM qaz]
 kernel_rfl
def qAb(n:Nat)(H:List Blk)(r:AV)(σ':St):Prop:=KpL [] H σ'.H/\∃B,r=.agg [.ms B 0 n 1]/\H.length<=B/\σ'.H[B]?=some (.cells (List.replicate n (.sl 0 [] .nil)))
def qnb(p)(a:p.vars.length<=1000)(h0:p.vars≠[])(H T):qh prog GG 15 [.agg (qw p)] ⟨H,T⟩ (qAb p.vars.length H):=by
 refine qFE o0 func15 ?_;simp[qz,qV,zt,qx,show(p.vars.length:Int)<=549755813888 by omega,h0];refine⟨qGe,_,rfl,?_,?_⟩
 . simp
 simp
def qna(p)(h0:p.vars=[])(H T):qh prog GG 15 [.agg (qw p)] ⟨H,T⟩ (fun r σ'=>KpL [] H σ'.H/\∃tok,r=.agg [.sl 1 [] tok]):=by
 refine qFE o0 func15 ?_;simp[qz,qV,zt,qx,h0];exact qGe
def qih(p:Problem):List (List Int):=p.vars.map fun v=>if v.mode=2 then(List.range (zG v)).map (fun n:Nat=>(n:Int)) else []
def qAE(x:AV):Prop:=x=.sl 1 [] .tight\/x=.sl 0 [] .nil
def qkg:List (Nat×Sch×List Nat):=[(6,.step 0 [7,6,1] (.step 2 [7,6] (.step 3 [7,6,5,4] (.step 4 [7,6,5] (.fork (.cons 1 (.step 5 [7,6] (.step 6 [7] (.step 7 [] (.done)))) (.cons 5 (.step 1 [7,6] (.step 6 [7] (.step 7 [] (.done)))) (.nil))))))),[])]
def vY(B:Nat)(H:List Blk)(x:AV)(u:List Int):Prop:=(u=[]/\qAE x)\/(u≠[]/\∃b,B<b/\x=.ms b 0 u.length 1/\H[b]?=some (.cells (zc u)))
def vY.keep{B H H' x u bs}(h:vY B H x u)(a:KpL bs H H')(hb:∀b∈bs,b<=B):vY B H' x u:=by
 rcases h with h|⟨h0,b,h1,h2,c⟩
 . exact .inl h
 exact .inr ⟨h0,b,h1,h2,a.2 _ _ c (fun d=>by have:=hb b d;omega)⟩
def vz(v:Var)(l:List Int):List Int:=if l.length<zG v then l else []
def Wt:∀(l),(l.map qf).flatten=zc l
 |[]=>rfl
 |n::l=>by rw[qBz,qB7,Wt l];rfl
def qbG(ws:List AV):Prop:=∀(i j b b' k k':Nat),i≠j->ws[i]?=some (.ms b 0 k 1)->ws[j]?=some (.ms b' 0 k' 1)->b≠b'
def qbG.set{ws}(h:qbG ws){n y}(l:∀b k,y=.ms b 0 k 1->∀i b' k',i≠n->ws[i]?=some (.ms b' 0 k' 1)->b'≠b):qbG (ws.set n y):=by
 intro i j b b' k k' r hi s;have o:∀m x,(ws.set n y)[m]?=some x->(m=n/\x=y)\/(m≠n/\ws[m]?=some x):=fun m x a=>by
  by_cases e:m=n
  . subst e;have t:m<ws.length:=(by have:=(qBk.1 a).1;simpa using this);rw[qBo t]at a;exact .inl ⟨rfl,(Option.some.inj a).symm⟩
  rw[qBn (Ne.symm e)]at a;exact .inr ⟨e,a⟩
 rcases o _ _ hi with⟨g,c⟩|⟨g,c⟩<;>rcases o _ _ s with⟨f,d⟩|⟨f,d⟩
 . omega
 . exact(l _ _ c.symm _ _ _ f d).symm
 . exact l _ _ d.symm _ _ _ g c
 exact h i j b b' k k' r c d
def vY.lt{B H u b k}(h:vY B H (.ms b 0 k 1) u):b<H.length/\B<b/\u≠[]:=by
 rcases h with⟨_,h|h⟩|⟨h0,b',h1,h2,a⟩
 . cases h
 . cases h
 cases h2;exact⟨(qBk.1 a).1,h1,h0⟩
def qAH(p:Problem)(c:List (List Int))(H:List Blk)(r:AV)(σ':St):Prop:=KpL [] H σ'.H/\∃B ws,r=.agg [.ms B 0 p.vars.length 1]/\H.length<=B/\σ'.H[B]?=some (.cells ws)/\ws.length=p.vars.length/\qbG ws /\
 ∀(i:Nat) (v:Var) (l:List Int) (x:AV),p.vars[i]?=some v->c[i]?=some l->ws[i]?=some x->vY B σ'.H x (vz v l)
def qlI(p c)(hl:p.vars.length<=1000)(h0:p.vars≠[])(hc:c.length=p.vars.length)(hw:∀v∈p.vars,0<=v.width/\v.width<=8)(c0:∀l∈c,l.length<=100000)(H T):
 qh prog GG 22 [.agg (qw p),.agg (jp c)] ⟨H,T⟩ (qAH p c H):=by
 refine qFE ⟨true,qkg,[],[]⟩ func22 ?_;have d3:=qnb p hl h0;simp;refine qFJ (d3 _ _) ?_;rintro v ⟨r,T1⟩ ⟨J,e,rfl,c3,b2⟩;dsimp only at J b2;have bx:=J.2 _ _ lk0 (by simp);have bh:=J.2 _ _ lk1 (by simp);simp only[qBp,qBB,qCc]at c3;have bz:=J.2 _ _ lk2 (by simp);have c6:KpL [] H r:=qGe.trans J;have c4:=J.1;simp only[qBp,qBB,qCc]at c4;have d9:=(qBk.1 b2).1;obtain⟨n,hn⟩:∃n,n=p.vars.length:=⟨_,rfl⟩;rw[<- hn]at b2 hl hc⊢;simp[qa bh];refine qFW c (fun d ev σ=>ev 2=.ptr H.length 0/\ev 3=.ptr (H.length+1) 0/\ev 4=.ptr (H.length+2) 0/\ev 5=.ptr r.length 0/\ev 11=.sl 1 (c.map qn) .none/\ev 12=.int .i64 n/\ev 13=.int .i64 d.length/\KpL [] H σ.H/\r.length<=σ.H.length/\σ.H[H.length]?=some (.cells (qw p))/\σ.H[H.length+2]?=some (.cells [.sl 0 [] .nil])/\σ.H[r.length]?=some (.cells [.ms e 0 n 1])/\∃ws,σ.H[e]?=some (.cells ws)/\ws.length=n/\qbG ws/\∀(i:Nat) (v:Var) (l:List Int) (x:AV),p.vars[i]?=some v->c[i]?=some l->ws[i]?=some x->vY e σ.H x (if i<d.length then vz v l else [])/\(d.length<=i->x=.sl 0 [] .nil)) ?_ ?_ ?_
 . refine⟨by simp,by simp,by simp,by simp,by simp,by simp[hc],by simp,c6.trans qGe,by simp,qa bx _,qa bz _,by simp,_,qa b2 _,by simp,(fun i j b b' k k' _ g=>by have:=qDs (qBl g);cases this),fun i v l x _ _ g=>?_⟩;have g:=qDs (qBl g);subst g;exact⟨.inl ⟨by simp,.inr rfl⟩,fun _=>rfl⟩
 . rintro d l rest ev ⟨f,T2⟩ R hR hd g c2 ⟨E,Z,Y,C,G,A,D,B,a9,z,K,o,ws,cw,u,a1,F⟩;dsimp only at B a9 z K o cw F;rw[hc]at c2;have I:(d.length:Int)<n:=(by omega);have a6:d.length+1<=n:=(by omega);have a8:=wr (n:=(d.length:Int)+1);obtain⟨v,Q⟩:∃v,p.vars[d.length]?=some v:=⟨_,qBm (by omega)⟩;have c1:=hw v (qBl Q);have b7:¬v.width<0:=(by omega);have b0:=yo c1.1 (by omega);simp only[qw,qBL]at z;have d0:0<2^v.width.toNat:=qDt _;have d8:=c0 l (qBl g);have S:vz v l=if l.length<2^v.width.toNat then l else []:=rfl
   obtain⟨W,hW⟩:∃W,W=2^v.width.toNat:=⟨_,rfl⟩;rw[<- hW]at b0 d0 S;have e1:d.length<p.vars.length:=(by omega);have e0:(d.length:Int)<p.vars.length:=(by omega);by_cases b6:l.length<W
   case neg=>
    rw[if_neg b6]at S;have a7:¬(l.length:Int)<W:=(by omega);simp[E,G,A,D,I,z,g,Q,qu,qn,b7,IntKind.bits,b0,a7,a8];refine hR _ _ ⟨by simp[E],by simp[Z],by simp[Y],by simp[C],by simp[G],by simp[A],by simp,B,a9,z,K,o,ws,cw,u,a1,fun i v' l' x s m t=>?_⟩;obtain⟨h1,h2⟩:=F i v' l' x s m t;refine⟨?_,fun h=>h2 (by simp at h;omega)⟩;by_cases hi:i<d.length
    . rw[if_pos hi]at h1;rw[if_pos (by simp;omega)];exact h1
    rw[if_neg hi]at h1;by_cases a0:i=d.length
    . subst a0;rw[if_pos (by simp)];rw[Q]at s;rw[g]at m;cases s;cases m
      rwa[S]
    rw[if_neg (by simp;omega)];exact h1
   . rw[if_pos b6]at S;have a7:(l.length:Int)<W:=(by omega);have b8:=(qBk.1 cw).1;have hg:∀y,(f.set e y)[e]?=some y:=fun y=>qBo b8
     have d5:∀y,(f.set e y)[r.length]?=some (.cells [.ms e 0 n 1]):=fun y=>by rw[qBn (by omega)];exact o
     have b1:∀y,(ws.set d.length y).drop d.length=y::ws.drop (d.length+1):=fun y=>by
      rw[qBE (by simp;omega)];simp[List.drop_set]
     have d4:d.length<ws.length:=(by omega);simp[E,G,A,D,I,z,g,Q,qu,qn,b7,IntKind.bits,b0,a7];rw[qG rfl];have fin:∀a T' H' y,a 2=.ptr H.length 0->a 3=.ptr (H.length+1) 0->a 4=.ptr (H.length+2) 0->a 5=.ptr r.length 0->a 11=.sl 1 (c.map qn) .none->a 12=.int .i64 n->a 13=.int .i64 ((d.length:Int)+1)->KpL [e] f H'->KpL [] H H'->H'[e]?=some (.cells (ws.set d.length y))->vY e H' y l->(∀b k,y=.ms b 0 k 1->f.length<=b)->R a ⟨H',T'⟩:=by
      intro a T' H' y N M O U L V X k1 k2 k3 k4 k5;refine hR _ _ ⟨N,M,O,U,L,V,by rw[X];simp,k2,by have:=k1.1;dsimp only;omega,k1.2 _ _ z (by simp;omega),k1.2 _ _ K (by simp;omega),k1.2 _ _ o (by simp;omega),_,k3,by simp[u],a1.set (fun b k hy i b' k' hi b5=>?_),fun i v' l' x s m t=>?_⟩
      . have d7:i<n:=(by have:=(qBk.1 b5).1;omega);have:=(F i _ _ _ (qBm (by omega)) (qBm (by omega)) b5).1.lt.1;have:=k5 b k hy;omega
      by_cases a0:i=d.length
      . subst a0;rw[Q]at s;rw[g]at m;cases s;cases m;rw[qBo d4]at t;cases t;rw[if_pos (by simp),S];exact⟨k4,fun h=>absurd h (by simp only[qBp,qBR];omega)⟩
      rw[qBn (Ne.symm a0)]at t;obtain⟨h1,h2⟩:=F i v' l' x s m t;refine⟨?_,fun h=>h2 (by simp at h;omega)⟩;have h3:(i<(d++[l]).length)↔(i<d.length):=(by simp;omega);have h4:=h1.keep k1 (by simp);by_cases hi:i<d.length
      . rw[if_pos hi]at h4;rw[if_pos (h3.2 hi)];exact h4
      rw[if_neg hi]at h4;rw[if_neg (fun h=>hi (h3.1 h))];exact h4
     have kw:∀a T',a 2=.ptr H.length 0->a 3=.ptr (H.length+1) 0->a 4=.ptr (H.length+2) 0->a 5=.ptr r.length 0->a 11=.sl 1 (c.map qn) .none->a 12=.int .i64 n->a 13=.int .i64 ((d.length:Int)+1)->l=[]->R a ⟨f.set e (.cells (ws.set d.length (.sl 1 [] .tight))),T'⟩:=fun a T' N M O U L V X h=>
      fin a T' _ _ N M O U L V X (qGf (by simp)) (B.setF (by omega)) (hg _) (.inl ⟨h,.inl rfl⟩) (fun b k h=>by cases h)
     by_cases P:l=[]
     . subst P;simp[qX,qiz,C,I,a6,o,qz,mkX,cw,u];refine⟨?_,?_⟩
       all_goals
        simp[D,I,a6,d5,hg,b1,u,kh,VY,a8];exact kw _ _ (by simp[E]) (by simp[Z]) (by simp[Y]) (by simp[C]) (by simp[G]) (by simp[A]) (by simp) rfl
     have d6:=qBA.2 P;have c9:=fun w=>qa cw w
     have b4:=fun w=>qa o w
     have b9:∀w y,((f++w).set e y)[e]?=some y:=fun w y=>qBo (by simp;omega)
     have d2:∀w y,((f++w).set e y)[r.length]?=some (.cells [.ms e 0 n 1]):=fun w y=>by rw[qBn (by omega)];exact b4 w
     have c7:∀x y,((f++[x]).set e y)[f.length]?=some x:=fun x y=>by rw[qBn (by omega)];simp
     have c8:zC (List.replicate l.length (AV.int .i64 0)) 0 (List.take l.length (l.map qf)).flatten=zc l:=by
      rw[qBr (by simp),Wt];exact putAt_all _ _ (by simp[qO])
     have w9:∀a T',a 2=.ptr H.length 0->a 3=.ptr (H.length+1) 0->a 4=.ptr (H.length+2) 0->a 5=.ptr r.length 0->a 11=.sl 1 (c.map qn) .none->a 12=.int .i64 n->a 13=.int .i64 ((d.length:Int)+1)->R a ⟨((f++[Blk.cells (List.replicate l.length (.int .i64 0))]).set e (.cells (ws.set d.length (.ms f.length 0 l.length 1)))).set f.length (.cells (zc l)),T'⟩:=fun a T' N M O U L V X=>
      fin a T' _ _ N M O U L V X ((qGe.trans (qGf (by simp))).setF (qBs _)) (((B.trans qGe).setF (by omega)).setF B.1) (by rw[qBn (by omega)];exact b9 _ _) (.inr ⟨P,_,b8,rfl,qBo (by simp)⟩) (fun b k h=>by cases h;exact qBs _)
     simp[qX,qiz,C,I,a6,o,b4,qz,mkX,c9,u,P,show(l.length:Int)<=549755813888 by omega];refine⟨?_,?_⟩
     all_goals
      simp[-getElem?_pos,D,I,a6,d2,b9,b1,c7,u,kh,VY,a8,qnF,P,c8];exact w9 _ _ (by simp[E]) (by simp[Z]) (by simp[Y]) (by simp[C]) (by simp[G]) (by simp[A]) (by simp)
 rintro ev ⟨f,T2⟩ ⟨E,Z,Y,C,G,A,D,B,a9,z,K,o,ws,cw,u,a1,F⟩;rw[hc]at D;have d1:=(qBk.1 K).1;simp[-getElem?_pos,Y,C,A,D,o,K,d1];refine⟨B.setF (by omega),e,ws,by rw[hn],by omega,?_,by rw[u,hn],a1,fun i v l x s m t=>?_⟩
 . dsimp only
   rwa[qBn (by omega)]
 have h1:=(F i v l x s m t).1;rw[if_pos (qBk.1 m).1]at h1;exact h1.keep (qGf (bs:=[H.length+2]) (by simp)) (by simp;omega)
def qgO{env e}(h:evalV env e≠0):Jm env e=0/\yi env e≠0:=by
 unfold evalV at h;split at h
 . rename_i a;refine⟨?_,h⟩;unfold Jm;rw[if_neg (by simp[a.1]),if_pos a.2]
 exact absurd rfl h
def qlo{p:Problem}(g:qg p=0){a:List Int}(j:a∈yS p.vars){i:Nat}{v:Var}{z:Int}(hi:p.vars[i]?=some v)(e:a[i]?=some z):ji (ke p.vars a) v.name=some z/\0<=z/\z<(zG v:Nat)\/v.mode=0:=by
 by_cases h:v.mode=0
 . exact .inr h
 left;have f:=kD.1 j;obtain⟨x,c,b⟩:=vx f hi;rw[e]at c;cases c;rw[if_neg h]at b;have o:=zb (zJ g v (qBl hi));have l:2^v.width.toNat<=2^8:=qBF (by omega) (by omega);have m:zG v=2^v.width.toNat:=rfl;have d:=Qw (y8 g) hi e;rw[QF b.1 (by omega)]at d;rw[show ke p.vars a=(p.vars.zip a).map fun q=>⟨q.1.name,q.2⟩ by unfold ke;rw[if_pos f.len]];exact⟨d,b⟩
