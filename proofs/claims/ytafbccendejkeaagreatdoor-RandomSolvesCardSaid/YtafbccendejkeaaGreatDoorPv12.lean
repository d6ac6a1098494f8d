import Derived.Test.YtafbccendejkeaaGreatDoorPv09
set_option maxHeartbeats 16000000
set_option maxRecDepth 100000
set_option linter.all false
namespace Go.Proofs.YtafbccendejkeaaGreatDoor
open Go Go.Abs Tryz
def qs6(l ds)(hl:Fits l)(hd:Fits ds)(hw:∀d∈ds,Fits d.weights):Pure prog GG 107 [.sl 4 (l.map qG) .none,.sl 2 (ds.map zn) .none] (.int .i64 (yC l ds)):=by
 refine okzQ func107 rfl rfl ?_;simp;refine qFW (fun n env U=>∃i tl,i<=ds.length/\n=ds.length-i/\env 0=.sl 4 (l.map qG) .none/\env 1=.sl 2 (ds.map zn) .none/\env 5=.int .i64 i/\U=⟨tl,[]⟩/\∀j,j<i->jW l ds j=0) ds.length ⟨0,[],by simp⟩ ?_;rintro n env U ⟨i,tl,hi,rfl,h0,h1,h5,rfl,hz⟩
 cases hv:ds[i]? with
 | none=>
  have hc:¬i<ds.length:=by simp at hv;omega
  have x:yC l ds=0:=qk7 fun j hj=>hz j (by omega)
  rw[x];simp[h1,h5,hc]
 | some d=>
  obtain⟨hc,hv'⟩:=qBa.1 hv;have hm:=qBb hv;have bad:jW l ds i≠0->yC l ds=jW l ds i:=fun h=>qqe hc hz h
  have next:jW l ds i=0->∀j,j<i+1->jW l ds j=0:=fun h j hj=>by
   rcases qCn.1 hj with hj|rfl
   . exact hz j hj
   exact h
  have hiw:IntKind.i64.wrap ((i:Int)+1)=((i+1:Nat):Int):=by rw[wr (by omega) (by omega)];omega
  by_cases c1:d.var<0
  . have hrn:yQ l d.var=false:=(by simp[yQ];intro h;omega);have x:jW l ds i=1:=(by simp[jW,hv,hrn]);rw[bad (by rw[x];decide),x];simp[h1,h5,hc,hv',c1]
  by_cases c2:(l.length:Int)<=d.var
  . have hrn:yQ l d.var=false:=by
     cases e:yQ l d.var
     . rfl
     have:=JD e;omega
    have x:jW l ds i=1:=(by simp[jW,hv,hrn]);rw[bad (by rw[x];decide),x];simp[h0,h1,h5,hc,hv',c1,c2]
  obtain⟨j,hj⟩:=qBw (show 0<=d.var by omega);have hjl:j<l.length:=by omega
  have hjr:yQ l d.var=(l[j].mode != 0):=by rw[hj];simp[yQ,qBc hjl]
  have c2':¬l.length<=j:=by omega
  have j0:¬(j:Int)<0:=by omega
  have j1:(0:Int)<=j:=by omega
  by_cases m0:l[j].mode=0
  . have hrn:yQ l d.var=false:=(by rw[hjr];simp[m0]);have x:jW l ds i=1:=(by simp[jW,hv,hrn]);rw[bad (by rw[x];decide),x];simp[h0,h1,h5,hc,hv',hj,hjl,c2',j0,j1,m0]
  have hrn:yQ l d.var=true:=by rw[hjr];simp[m0]
  simp[h0,h1,h5,hc,hv',hj,hjl,c2',j0,j1,m0];refine qFW (fun n env U=>∃k:Nat,k<=i/\n=i-k/\env 0=.sl 4 (l.map qG) .none/\env 1=.sl 2 (ds.map zn) .none/\env 5=.int .i64 i/\env 6=.int .i64 k/\U=⟨tl,[]⟩/\∀y∈ds.take k,¬y.var=d.var) i ?_ ?_
  . exact⟨0,by omega,by omega,by simp[h0],by simp[h1],by simp[h5],by simp⟩
  rintro n env U ⟨k,hk,rfl,h0,h1,h5,h6,rfl,hall⟩;by_cases hki:k<i
  . have hki':(k:Int)<i:=(by omega);have hkl:k<ds.length:=(by omega);by_cases he:ds[k].var=d.var
    . have hdp:((ds.take i).any fun y=>y.var==d.var)=true:=by
       refine qBJ.2 ⟨ds[k],?_,by simpa using he⟩;rw[qEQ];exact⟨k,by omega,rfl⟩
      have x:jW l ds i=8:=(by simp only[jW,hv,hrn,hdp];rfl);rw[bad (by rw[x];decide),x];have he':ds[k].var=(j:Int):=(by rw[he,hj]);simp[h0,h1,h5,h6,hc,hv',hki,hkl,he,hj]
    have he':¬ds[k].var=(j:Int):=(by rwa[<- hj]);simp[h0,h1,h5,h6,hc,hv',hki,hkl,he',hj];refine⟨_,by omega,k+1,by omega,rfl,wr (by omega) (by omega),?_⟩;intro y hy;rw[qBG,qBc hkl]at hy;rcases qBp.1 hy with hy|hy
    . have:=hall y hy;rwa[hj]at this
    simp at hy;rwa[hy]
  have hki':¬(k:Int)<i:=by omega
  have hkk:k=i:=by omega
  subst hkk;have hdp:((ds.take k).any fun y=>y.var==d.var)=false:=by
   rw[qCu];intro e;obtain⟨y,h1,h2⟩:=qBJ.1 e;exact hall y h1 (by simpa using h2)
  by_cases h16:16<d.weights.length
  . have h16':(16:Int)<d.weights.length:=(by omega);have x:jW l ds k=2:=(by simp only[jW,hv,hrn,hdp,h16];rfl);rw[bad (by rw[x];decide),x];simp[h1,h5,h6,hc,hv',h16']
  have h16':¬(16:Int)<d.weights.length:=by omega
  simp[h1,h5,h6,hc,hv',h16'];refine qFW (fun n env U=>∃q tl,q<=d.weights.length/\n=d.weights.length-q/\env 0=.sl 4 (l.map qG) .none/\env 1=.sl 2 (ds.map zn) .none/\env 5=.int .i64 k/\env 7=.int .i64 q/\U=⟨tl,[]⟩/\∀w∈d.weights.take q,zV w=false) d.weights.length ?_ ?_
  . exact⟨0,tl,by omega,by omega,by simp[h0],by simp[h1],by simp[h5],by simp⟩
  rintro n env U ⟨q,tl,hq,rfl,h0,h1,h5,h7,rfl,hwz⟩
  cases hwq:d.weights[q]? with
  | none=>
   have hcq:¬q<d.weights.length:=(by simp at hwq;omega);rw[show d.weights.take q=d.weights from qBh (by omega)]at hwz;have hwt:d.weights.any zV=false:=by
    rw[qCu];intro e;obtain⟨y,h1,h2⟩:=qBJ.1 e;rw[hwz y h1]at h2;cases h2
   have x:jW l ds k=0:=(by simp only[jW,hv,hrn,hdp,h16,hwt];rfl);simp[h0,h1,h5,h7,hc,hv',hcq,hiw];exact⟨_,by omega,k+1,by omega,rfl,rfl,next x⟩
  | some w=>
   obtain⟨hcq,hwq'⟩:=qBa.1 hwq;have hmw:=qBb hwq;have badw:zV w=true->yC l ds=1:=fun h=>by
    have x:jW l ds k=1:=(by simp only[jW,hv,hrn,hdp,h16,show d.weights.any zV=true from qBJ.2 ⟨w,hmw,h⟩];rfl);rw[bad (by rw[x];decide),x]
   by_cases w1:w.lo<0
   . rw[badw (by simp[zV,w1])];simp[h0,h1,h5,h7,hc,hv',hcq,hwq',qBO,w1]
   by_cases w2:w.hi<w.lo
   . rw[badw (by simp[zV,w2])];simp[h0,h1,h5,h7,hc,hv',hcq,hwq',qBO,w1,w2]
   by_cases w3:65535<w.hi
   . rw[badw (by simp[zV,w3])];simp[h0,h1,h5,h7,hc,hv',hcq,hwq',qBO,w1,w2,w3]
   by_cases w4:w.weight<0
   . rw[badw (by simp[zV,w4])];simp[h0,h1,h5,h7,hc,hv',hcq,hwq',qBO,w1,w2,w3,w4]
   by_cases w5:1000<w.weight
   . rw[badw (by simp[zV,w5])];simp[h0,h1,h5,h7,hc,hv',hcq,hwq',qBO,w1,w2,w3,w4,w5]
   simp[h0,h1,h5,h7,hc,hv',hcq,hwq',qBO,w1,w2,w3,w4,w5];exact⟨_,by omega,q+1,by omega,rfl,wr (by omega) (by have:=hw d hm;omega),qW hwq hwz (by simp[zV,w1,w2,w3,w4,w5])⟩
