import Derived.Test.YtfmdnopgncbmoaaGreatDoorPs13
set_option maxHeartbeats 16000000
set_option maxRecDepth 100000
set_option linter.all false
set_option linter.defProp false
namespace Go.Proofs.YtfmdnopgncbmoaaGreatDoor
open Go Go.Abs Tryz
def qqv(l ds)(hl:Fits l)(hd:Fits ds)(hw:∀d∈ds,Fits d.weights):Pure prog GG 35 [.sl 4 (l.map qD) .none,.sl 2 (ds.map zF) .none] (.int .i64 (yi l ds)):=by
 refine qDb qe func35 rfl (by kernel_rfl) ?_;simp;refine qC9 (fun n env U=>∃i tl,i<=ds.length/\n=ds.length-i/\env 0=.sl 4 (l.map qD) .none/\env 1=.sl 2 (ds.map zF) .none/\env 5=.int .i64 i/\U=⟨tl,[]⟩/\∀j,j<i->jE l ds j=0) ds.length ⟨0,[],by simp⟩ ?_;rintro n env U ⟨i,tl,hi,rfl,h0,h1,h5,rfl,hz⟩
 cases hv:ds[i]? with
 | none=>
  have hc:¬i<ds.length:=by simp at hv;omega
  have x:yi l ds=0:=qiX fun j hj=>hz j (by omega)
  rw[x];simp[h1,h5,hc]
 | some d=>
  obtain⟨hc,hv'⟩:=qyF.1 hv;have hm:=qyG hv;have bad:jE l ds i≠0->yi l ds=jE l ds i:=fun h=>qnW hc hz h
  have next:jE l ds i=0->∀j,j<i+1->jE l ds j=0:=fun h j hj=>by
   rcases qzK.1 hj with hj|rfl
   . exact hz j hj
   exact h
  have hiw:IntKind.i64.wrap ((i:Int)+1)=((i+1:Nat):Int):=by rw[wr (by omega) (by omega)];omega
  by_cases c1:d.var<0
  . have hrn:yo l d.var=false:=(by simp[yo];intro h;omega);have x:jE l ds i=1:=(by simp[jE,hv,hrn]);rw[bad (by rw[x];decide),x];simp[h1,h5,hc,hv',c1]
  by_cases c2:(l.length:Int)<=d.var
  . have hrn:yo l d.var=false:=by
     cases e:yo l d.var
     . rfl
     have:=Zy e;omega
    have x:jE l ds i=1:=(by simp[jE,hv,hrn]);rw[bad (by rw[x];decide),x];simp[h0,h1,h5,hc,hv',c1,c2]
  obtain⟨j,hj⟩:=qzg (show 0<=d.var by omega);have hjl:j<l.length:=by omega
  have hjr:yo l d.var=(l[j].mode != 0):=by rw[hj];simp[yo,qyH hjl]
  have c2':¬l.length<=j:=by omega
  have j0:¬(j:Int)<0:=by omega
  have j1:(0:Int)<=j:=by omega
  by_cases m0:l[j].mode=0
  . have hrn:yo l d.var=false:=(by rw[hjr];simp[m0]);have x:jE l ds i=1:=(by simp[jE,hv,hrn]);rw[bad (by rw[x];decide),x];simp[h0,h1,h5,hc,hv',hj,hjl,c2',j0,j1,m0]
  have hrn:yo l d.var=true:=by rw[hjr];simp[m0]
  simp[h0,h1,h5,hc,hv',hj,hjl,c2',j0,j1,m0];refine qC9 (fun n env U=>∃k:Nat,k<=i/\n=i-k/\env 0=.sl 4 (l.map qD) .none/\env 1=.sl 2 (ds.map zF) .none/\env 5=.int .i64 i/\env 6=.int .i64 k/\U=⟨tl,[]⟩/\∀y∈ds.take k,¬y.var=d.var) i ?_ ?_
  . exact⟨0,by omega,by omega,by simp[h0],by simp[h1],by simp[h5],by simp⟩
  rintro n env U ⟨k,hk,rfl,h0,h1,h5,h6,rfl,hall⟩;by_cases hki:k<i
  . have hki':(k:Int)<i:=(by omega);have hkl:k<ds.length:=(by omega);by_cases he:ds[k].var=d.var
    . have hdp:((ds.take i).any fun y=>y.var==d.var)=true:=by
       refine qy8.2 ⟨ds[k],?_,by simpa using he⟩;rw[qB8];exact⟨k,by omega,rfl⟩
      have x:jE l ds i=8:=(by simp only[jE,hv,hrn,hdp];rfl);rw[bad (by rw[x];decide),x];have he':ds[k].var=(j:Int):=(by rw[he,hj]);simp[h0,h1,h5,h6,hc,hv',hki,hkl,he,hj]
    have he':¬ds[k].var=(j:Int):=(by rwa[<- hj]);simp[h0,h1,h5,h6,hc,hv',hki,hkl,he',hj];refine⟨_,by omega,k+1,by omega,rfl,wr (by omega) (by omega),?_⟩;intro y hy;rw[qzb,qyH hkl]at hy;rcases qy0.1 hy with hy|hy
    . have:=hall y hy;rwa[hj]at this
    simp at hy;rwa[hy]
  have hki':¬(k:Int)<i:=by omega
  have hkk:k=i:=by omega
  subst hkk;have hdp:((ds.take k).any fun y=>y.var==d.var)=false:=by
   rw[qzT];intro e;obtain⟨y,h1,h2⟩:=qy8.1 e;exact hall y h1 (by simpa using h2)
  by_cases h16:16<d.weights.length
  . have h16':(16:Int)<d.weights.length:=(by omega);have x:jE l ds k=2:=(by simp only[jE,hv,hrn,hdp,h16];rfl);rw[bad (by rw[x];decide),x];simp[h1,h5,h6,hc,hv',h16']
  have h16':¬(16:Int)<d.weights.length:=by omega
  simp[h1,h5,h6,hc,hv',h16'];refine qC9 (fun n env U=>∃q tl,q<=d.weights.length/\n=d.weights.length-q/\env 0=.sl 4 (l.map qD) .none/\env 1=.sl 2 (ds.map zF) .none/\env 5=.int .i64 k/\env 7=.int .i64 q/\U=⟨tl,[]⟩/\∀w∈d.weights.take q,zM w=false) d.weights.length ?_ ?_
  . exact⟨0,tl,by omega,by omega,by simp[h0],by simp[h1],by simp[h5],by simp⟩
  rintro n env U ⟨q,tl,hq,rfl,h0,h1,h5,h7,rfl,hwz⟩
  cases hwq:d.weights[q]? with
  | none=>
   have hcq:¬q<d.weights.length:=(by simp at hwq;omega);rw[show d.weights.take q=d.weights from qyN (by omega)]at hwz;have hwt:d.weights.any zM=false:=by
    rw[qzT];intro e;obtain⟨y,h1,h2⟩:=qy8.1 e;rw[hwz y h1]at h2;cases h2
   have x:jE l ds k=0:=(by simp only[jE,hv,hrn,hdp,h16,hwt];rfl);simp[h0,h1,h5,h7,hc,hv',hcq,hiw];exact⟨_,by omega,k+1,by omega,rfl,rfl,next x⟩
  | some w=>
   obtain⟨hcq,hwq'⟩:=qyF.1 hwq;have hmw:=qyG hwq;have badw:zM w=true->yi l ds=1:=fun h=>by
    have x:jE l ds k=1:=(by simp only[jE,hv,hrn,hdp,h16,show d.weights.any zM=true from qy8.2 ⟨w,hmw,h⟩];rfl);rw[bad (by rw[x];decide),x]
   by_cases w1:w.lo<0
   . rw[badw (by simp[zM,w1])];simp[h0,h1,h5,h7,hc,hv',hcq,hwq',qzi,w1]
   by_cases w2:w.hi<w.lo
   . rw[badw (by simp[zM,w2])];simp[h0,h1,h5,h7,hc,hv',hcq,hwq',qzi,w1,w2]
   by_cases w3:65535<w.hi
   . rw[badw (by simp[zM,w3])];simp[h0,h1,h5,h7,hc,hv',hcq,hwq',qzi,w1,w2,w3]
   by_cases w4:w.weight<0
   . rw[badw (by simp[zM,w4])];simp[h0,h1,h5,h7,hc,hv',hcq,hwq',qzi,w1,w2,w3,w4]
   by_cases w5:1000<w.weight
   . rw[badw (by simp[zM,w5])];simp[h0,h1,h5,h7,hc,hv',hcq,hwq',qzi,w1,w2,w3,w4,w5]
   simp[h0,h1,h5,h7,hc,hv',hcq,hwq',qzi,w1,w2,w3,w4,w5];exact⟨_,by omega,q+1,by omega,rfl,wr (by omega) (by have:=hw d hm;omega),za hwq hwz (by simp[zM,w1,w2,w3,w4,w5])⟩
