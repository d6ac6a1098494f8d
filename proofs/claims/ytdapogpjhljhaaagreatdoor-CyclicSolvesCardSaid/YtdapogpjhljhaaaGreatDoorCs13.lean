import Derived.Test.YtdapogpjhljhaaaGreatDoorCs10
set_option maxHeartbeats 16000000
set_option maxRecDepth 100000
set_option linter.all false
set_option linter.defProp false
namespace Go.Proofs.YtdapogpjhljhaaaGreatDoor
open Go Go.Abs Tryz
def qs7(l ds)(hl:Fits l)(hd:Fits ds)(X:∀d∈ds,Fits d.weights):Pure prog GG 37 [.sl 4 (l.map qu) .none,.sl 2 (ds.map zu) .none] (.int .i64 (yH l ds)):=by
 refine qF6 func37 ?_;simp;refine qF3 (fun n env σ=>∃i r,i<=ds.length/\n=ds.length-i/\env 0=.sl 4 (l.map qu) .none/\env 1=.sl 2 (ds.map zu) .none/\env 5=.int .i64 i/\σ=⟨r,[]⟩/\∀j,j<i->jR l ds j=0) ds.length ⟨0,[],by simp⟩ ?_;rintro n env σ ⟨i,r,hi,rfl,h0,h1,a,rfl,K⟩
 cases hv:ds[i]? with
 | none=>
  have b:¬i<ds.length:=by simp at hv;omega
  have x:yH l ds=0:=qlm fun j f=>K j (by omega)
  rw[x];simp[h1,a,b]
 | some d=>
  obtain⟨b,c⟩:=qBk.1 hv;have Y:=qBl hv;have bad:jR l ds i≠0->yH l ds=jR l ds i:=fun h=>qqo b K h
  have next:jR l ds i=0->∀j,j<i+1->jR l ds j=0:=fun h j f=>by
   rcases qCB.1 f with f|rfl
   . exact K j f
   exact h
  have W:IntKind.i64.wrap ((i:Int)+1)=((i+1:Nat):Int):=by rw[wr];omega
  by_cases c1:d.var<0
  . have g:yU l d.var=false:=(by simp[yU];intro h;omega);have x:jR l ds i=1:=(by simp[jR,hv,g]);rw[bad (by rw[x];decide),x];simp[h1,a,b,c,c1]
  by_cases c2:(l.length:Int)<=d.var
  . have g:yU l d.var=false:=by
     cases e:yU l d.var
     . rfl
     have:=JG e;omega
    have x:jR l ds i=1:=(by simp[jR,hv,g]);rw[bad (by rw[x];decide),x];simp[h0,h1,a,b,c,c1,c2]
  obtain⟨j,f⟩:=qBG (show 0<=d.var by omega);have I:j<l.length:=by omega
  have T:yU l d.var=(l[j].mode != 0):=by rw[f];simp[yU,qBm I]
  have Q:¬l.length<=j:=by omega
  have S:¬(j:Int)<0:=by omega
  have O:(0:Int)<=j:=by omega
  by_cases m0:l[j].mode=0
  . have g:yU l d.var=false:=(by rw[T];simp[m0]);have x:jR l ds i=1:=(by simp[jR,hv,g]);rw[bad (by rw[x];decide),x];simp[h0,h1,a,b,c,f,I,Q,S,O,m0]
  have g:yU l d.var=true:=by rw[T];simp[m0]
  simp[h0,h1,a,b,c,f,I,Q,S,O,m0];refine qF3 (fun n env σ=>∃k:Nat,k<=i/\n=i-k/\env 0=.sl 4 (l.map qu) .none/\env 1=.sl 2 (ds.map zu) .none/\env 5=.int .i64 i/\env 6=.int .i64 k/\σ=⟨r,[]⟩/\∀y∈ds.take k,¬y.var=d.var) i ?_ ?_
  . exact⟨0,by omega,by omega,by simp[h0],by simp[h1],by simp[a],by simp⟩
  rintro n env σ ⟨k,hk,rfl,h0,h1,a,D,rfl,N⟩;by_cases P:k<i
  . have Z:(k:Int)<i:=(by omega);have L:k<ds.length:=(by omega);by_cases F:ds[k].var=d.var
    . have C:((ds.take i).any fun y=>y.var==d.var)=true:=by
       refine qBM.2 ⟨ds[k],?_,by simpa using F⟩;rw[qD9];exact⟨k,by omega,rfl⟩
      have x:jR l ds i=8:=(by simp only[jR,hv,g,C];rfl);rw[bad (by rw[x];decide),x];have R:ds[k].var=(j:Int):=(by rw[F,f]);simp[h0,h1,a,D,b,c,P,L,F,f]
    have R:¬ds[k].var=(j:Int):=(by rwa[<- f]);simp[h0,h1,a,D,b,c,P,L,R,f];refine⟨_,by omega,k+1,by omega,rfl,wr,?_⟩;intro y u;rw[qBQ,qBm L]at u;rcases qBC.1 u with u|u
    . have:=N y u;rwa[f]at this
    simp at u;rwa[u]
  have Z:¬(k:Int)<i:=by omega
  have U:k=i:=by omega
  subst U;have C:((ds.take k).any fun y=>y.var==d.var)=false:=by
   rw[qCs];intro e;obtain⟨y,h1,h2⟩:=qBM.1 e;exact N y h1 (by simpa using h2)
  by_cases M:16<d.weights.length
  . have J:(16:Int)<d.weights.length:=(by omega);have x:jR l ds k=2:=(by simp only[jR,hv,g,C,M];rfl);rw[bad (by rw[x];decide),x];simp[h1,a,D,b,c,J]
  have J:¬(16:Int)<d.weights.length:=by omega
  simp[h1,a,D,b,c,J];refine qF3 (fun n env σ=>∃q r,q<=d.weights.length/\n=d.weights.length-q/\env 0=.sl 4 (l.map qu) .none/\env 1=.sl 2 (ds.map zu) .none/\env 5=.int .i64 k/\env 7=.int .i64 q/\σ=⟨r,[]⟩/\∀w∈d.weights.take q,z4 w=false) d.weights.length ?_ ?_
  . exact⟨0,r,by omega,by omega,by simp[h0],by simp[h1],by simp[a],by simp⟩
  rintro n env σ ⟨q,r,hq,rfl,h0,h1,a,t,rfl,G⟩
  cases hwq:d.weights[q]? with
  | none=>
   have m:¬q<d.weights.length:=(by simp at hwq;omega);rw[show d.weights.take q=d.weights from qBr (by omega)]at G;have V:d.weights.any z4=false:=by
    rw[qCs];intro e;obtain⟨y,h1,h2⟩:=qBM.1 e;rw[G y h1]at h2;cases h2
   have x:jR l ds k=0:=(by simp only[jR,hv,g,C,M,V];rfl);simp[h0,h1,a,t,b,c,m,W];exact⟨_,by omega,k+1,by omega,rfl,rfl,next x⟩
  | some w=>
   obtain⟨m,v⟩:=qBk.1 hwq;have a0:=qBl hwq;have A:z4 w=true->yH l ds=1:=fun h=>by
    have x:jR l ds k=1:=(by simp only[jR,hv,g,C,M,show d.weights.any z4=true from qBM.2 ⟨w,a0,h⟩];rfl);rw[bad (by rw[x];decide),x]
   by_cases o:w.lo<0
   . rw[A (by simp[z4,o])];simp[h0,h1,a,t,b,c,m,v,qB8,o]
   by_cases s:w.hi<w.lo
   . rw[A (by simp[z4,s])];simp[h0,h1,a,t,b,c,m,v,qB8,o,s]
   by_cases z:65535<w.hi
   . rw[A (by simp[z4,z])];simp[h0,h1,a,t,b,c,m,v,qB8,o,s,z]
   by_cases B:w.weight<0
   . rw[A (by simp[z4,B])];simp[h0,h1,a,t,b,c,m,v,qB8,o,s,z,B]
   by_cases E:1000<w.weight
   . rw[A (by simp[z4,E])];simp[h0,h1,a,t,b,c,m,v,qB8,o,s,z,B,E]
   simp[h0,h1,a,t,b,c,m,v,qB8,o,s,z,B,E];exact⟨_,by omega,q+1,by omega,rfl,wr (by omega) (by have:=X d Y;omega),zf hwq G (by simp[z4,o,s,z,B,E])⟩
