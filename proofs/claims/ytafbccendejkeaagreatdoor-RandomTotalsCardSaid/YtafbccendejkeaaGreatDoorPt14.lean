import Derived.Test.YtafbccendejkeaaGreatDoorPt11
set_option maxHeartbeats 16000000
set_option maxRecDepth 100000
set_option linter.all false
set_option linter.defProp false
namespace Go.Proofs.YtafbccendejkeaaGreatDoor
open Go Go.Abs Tryz
def qsy(l ds)(hl:Fits l)(hd:Fits ds)(hw:∀d∈ds,Fits d.weights):Pure prog GG 107 [.sl 4 (l.map qJ) .none,.sl 2 (ds.map zl) .none] (.int .i64 (yr l ds)):=by
 refine qE9 qe func107 rfl (by kernel_rfl) ?_;simp;refine qE6 (fun n env U=>∃i tl,i<=ds.length/\n=ds.length-i/\env 0=.sl 4 (l.map qJ) .none/\env 1=.sl 2 (ds.map zl) .none/\env 5=.int .i64 i/\U=⟨tl,[]⟩/\∀j,j<i->jQ l ds j=0) ds.length ⟨0,[],by simp⟩ ?_;rintro n env U ⟨i,tl,hi,rfl,h0,h1,h5,rfl,hz⟩
 cases hv:ds[i]? with
 | none=>
  have hc:¬i<ds.length:=by simp at hv;omega
  have x:yr l ds=0:=qkL fun j hj=>hz j (by omega)
  rw[x];simp[h1,h5,hc]
 | some d=>
  obtain⟨hc,hv'⟩:=qAm.1 hv;have hm:=qAn hv;have bad:jQ l ds i≠0->yr l ds=jQ l ds i:=fun h=>qpK hc hz h
  have next:jQ l ds i=0->∀j,j<i+1->jQ l ds j=0:=fun h j hj=>by
   rcases qBw.1 hj with hj|rfl
   . exact hz j hj
   exact h
  have hiw:IntKind.i64.wrap ((i:Int)+1)=((i+1:Nat):Int):=by rw[wr (by omega) (by omega)];omega
  by_cases c1:d.var<0
  . have hrn:yG l d.var=false:=(by simp[yG];intro h;omega);have x:jQ l ds i=1:=(by simp[jQ,hv,hrn]);rw[bad (by rw[x];decide),x];simp[h1,h5,hc,hv',c1]
  by_cases c2:(l.length:Int)<=d.var
  . have hrn:yG l d.var=false:=by
     cases e:yG l d.var
     . rfl
     have:=Jm e;omega
    have x:jQ l ds i=1:=(by simp[jQ,hv,hrn]);rw[bad (by rw[x];decide),x];simp[h0,h1,h5,hc,hv',c1,c2]
  obtain⟨j,hj⟩:=qAH (show 0<=d.var by omega);have hjl:j<l.length:=by omega
  have hjr:yG l d.var=(l[j].mode != 0):=by rw[hj];simp[yG,qAo hjl]
  have c2':¬l.length<=j:=by omega
  have j0:¬(j:Int)<0:=by omega
  have j1:(0:Int)<=j:=by omega
  by_cases m0:l[j].mode=0
  . have hrn:yG l d.var=false:=(by rw[hjr];simp[m0]);have x:jQ l ds i=1:=(by simp[jQ,hv,hrn]);rw[bad (by rw[x];decide),x];simp[h0,h1,h5,hc,hv',hj,hjl,c2',j0,j1,m0]
  have hrn:yG l d.var=true:=by rw[hjr];simp[m0]
  simp[h0,h1,h5,hc,hv',hj,hjl,c2',j0,j1,m0];refine qE6 (fun n env U=>∃k:Nat,k<=i/\n=i-k/\env 0=.sl 4 (l.map qJ) .none/\env 1=.sl 2 (ds.map zl) .none/\env 5=.int .i64 i/\env 6=.int .i64 k/\U=⟨tl,[]⟩/\∀y∈ds.take k,¬y.var=d.var) i ?_ ?_
  . exact⟨0,by omega,by omega,by simp[h0],by simp[h1],by simp[h5],by simp,rfl,by simp⟩
  rintro n env U ⟨k,hk,rfl,h0,h1,h5,h6,rfl,hall⟩;by_cases hki:k<i
  . have hki':(k:Int)<i:=(by omega);have hkl:k<ds.length:=(by omega);by_cases he:ds[k].var=d.var
    . have hdp:((ds.take i).any fun y=>y.var==d.var)=true:=by
       refine qAW.2 ⟨ds[k],?_,by simpa using he⟩;rw[qD0];exact⟨k,by omega,rfl⟩
      have x:jQ l ds i=8:=(by simp only[jQ,hv,hrn,hdp];rfl);rw[bad (by rw[x];decide),x];have he':ds[k].var=(j:Int):=(by rw[he,hj]);simp[h0,h1,h5,h6,hc,hv',hki,hkl,he,hj]
    have he':¬ds[k].var=(j:Int):=(by rw[<- hj];exact he);simp[h0,h1,h5,h6,hc,hv',hki,hkl,he',hj];refine⟨_,by omega,k+1,by omega,rfl,wr (by omega) (by omega),?_⟩;intro y hy;rw[qAT,qAo hkl]at hy;rcases qAC.1 hy with hy|hy
    . have:=hall y hy;rwa[hj]at this
    simp at hy;rw[hy];exact he'
  have hki':¬(k:Int)<i:=by omega
  have hkk:k=i:=by omega
  subst hkk;have hdp:((ds.take k).any fun y=>y.var==d.var)=false:=by
   rw[qBD];intro e;obtain⟨y,h1,h2⟩:=qAW.1 e;exact hall y h1 (by simpa using h2)
  by_cases h16:16<d.weights.length
  . have h16':(16:Int)<d.weights.length:=(by omega);have x:jQ l ds k=2:=(by simp only[jQ,hv,hrn,hdp,h16];rfl);rw[bad (by rw[x];decide),x];simp[h1,h5,h6,hc,hv',h16']
  have h16':¬(16:Int)<d.weights.length:=by omega
  simp[h1,h5,h6,hc,hv',h16'];refine qE6 (fun n env U=>∃q tl,q<=d.weights.length/\n=d.weights.length-q/\env 0=.sl 4 (l.map qJ) .none/\env 1=.sl 2 (ds.map zl) .none/\env 5=.int .i64 k/\env 7=.int .i64 q/\U=⟨tl,[]⟩/\∀w∈d.weights.take q,zV w=false) d.weights.length ?_ ?_
  . exact⟨0,tl,by omega,by omega,by simp[h0],by simp[h1],by simp[h5],by simp,rfl,by simp⟩
  rintro n env U ⟨q,tl,hq,rfl,h0,h1,h5,h7,rfl,hwz⟩
  cases hwq:d.weights[q]? with
  | none=>
   have hcq:¬q<d.weights.length:=(by simp at hwq;omega);rw[show d.weights.take q=d.weights from qAs (by omega)]at hwz;have hwt:d.weights.any zV=false:=by
    rw[qBD];intro e;obtain⟨y,h1,h2⟩:=qAW.1 e;rw[hwz y h1]at h2;cases h2
   have x:jQ l ds k=0:=(by simp only[jQ,hv,hrn,hdp,h16,hwt];rfl);simp[h0,h1,h5,h7,hc,hv',hcq,hiw];exact⟨_,by omega,k+1,by omega,rfl,rfl,next x⟩
  | some w=>
   obtain⟨hcq,hwq'⟩:=qAm.1 hwq;have hmw:=qAn hwq;have badw:zV w=true->yr l ds=1:=fun h=>by
    have x:jQ l ds k=1:=(by simp only[jQ,hv,hrn,hdp,h16,show d.weights.any zV=true from qAW.2 ⟨w,hmw,h⟩];rfl);rw[bad (by rw[x];decide),x]
   by_cases w1:w.lo<0
   . rw[badw (by simp[zV,w1])];simp[h0,h1,h5,h7,hc,hv',hcq,hwq',qA0,w1]
   by_cases w2:w.hi<w.lo
   . rw[badw (by simp[zV,w2])];simp[h0,h1,h5,h7,hc,hv',hcq,hwq',qA0,w1,w2]
   by_cases w3:65535<w.hi
   . rw[badw (by simp[zV,w3])];simp[h0,h1,h5,h7,hc,hv',hcq,hwq',qA0,w1,w2,w3]
   by_cases w4:w.weight<0
   . rw[badw (by simp[zV,w4])];simp[h0,h1,h5,h7,hc,hv',hcq,hwq',qA0,w1,w2,w3,w4]
   by_cases w5:1000<w.weight
   . rw[badw (by simp[zV,w5])];simp[h0,h1,h5,h7,hc,hv',hcq,hwq',qA0,w1,w2,w3,w4,w5]
   simp[h0,h1,h5,h7,hc,hv',hcq,hwq',qA0,w1,w2,w3,w4,w5];exact⟨_,by omega,q+1,by omega,rfl,wr (by omega) (by have:=hw d hm;omega),qW hwq hwz (by simp[zV,w1,w2,w3,w4,w5])⟩
