import Derived.Test.YtimecmegnocamaaGreatDoorPq16
set_option maxHeartbeats 16000000
set_option maxRecDepth 100000
set_option linter.all false
set_option linter.defProp false
namespace Go.Proofs.YtimecmegnocamaaGreatDoor
open Go Go.Abs Tryz
def qsT(l ds)(hl:Fits l)(hd:Fits ds)(hw:∀d∈ds,Fits d.weights):Pure prog GG 95 [.sl 4 (l.map qM) .none,.sl 2 (ds.map zs) .none] (.int .i64 (yB l ds)):=by
 refine qFP qg func95 rfl (by kernel_rfl) ?_;simp;refine qFM (fun n env U=>∃i tl,i<=ds.length/\n=ds.length-i/\env 0=.sl 4 (l.map qM) .none/\env 1=.sl 2 (ds.map zs) .none/\env 5=.int .i64 i/\U=⟨tl,[]⟩/\∀j,j<i->jT l ds j=0) ds.length ⟨0,[],by simp⟩ ?_;rintro n env U ⟨i,tl,hi,rfl,h0,h1,h5,rfl,hz⟩
 cases hv:ds[i]? with
 | none=>
  have hc:¬i<ds.length:=by simp at hv;omega
  have x:yB l ds=0:=qk4 fun j hj=>hz j (by omega)
  rw[x];simp[h1,h5,hc]
 | some d=>
  obtain⟨hc,hv'⟩:=qAU.1 hv;have hm:=qAV hv;have bad:jT l ds i≠0->yB l ds=jT l ds i:=fun h=>qp4 hc hz h
  have next:jT l ds i=0->∀j,j<i+1->jT l ds j=0:=fun h j hj=>by
   rcases qB5.1 hj with hj|rfl
   . exact hz j hj
   exact h
  have hiw:IntKind.i64.wrap ((i:Int)+1)=((i+1:Nat):Int):=by rw[wr (by omega) (by omega)];omega
  by_cases c1:d.var<0
  . have hrn:yO l d.var=false:=(by simp[yO];intro h;omega);have x:jT l ds i=1:=(by simp[jT,hv,hrn]);rw[bad (by rw[x];decide),x];simp[h1,h5,hc,hv',c1]
  by_cases c2:(l.length:Int)<=d.var
  . have hrn:yO l d.var=false:=by
     cases e:yO l d.var
     . rfl
     have:=Jp e;omega
    have x:jT l ds i=1:=(by simp[jT,hv,hrn]);rw[bad (by rw[x];decide),x];simp[h0,h1,h5,hc,hv',c1,c2]
  obtain⟨j,hj⟩:=qBe (show 0<=d.var by omega);have hjl:j<l.length:=by omega
  have hjr:yO l d.var=(l[j].mode != 0):=by rw[hj];simp[yO,qAW hjl]
  have c2':¬l.length<=j:=by omega
  have j0:¬(j:Int)<0:=by omega
  have j1:(0:Int)<=j:=by omega
  by_cases m0:l[j].mode=0
  . have hrn:yO l d.var=false:=(by rw[hjr];simp[m0]);have x:jT l ds i=1:=(by simp[jT,hv,hrn]);rw[bad (by rw[x];decide),x];simp[h0,h1,h5,hc,hv',hj,hjl,c2',j0,j1,m0]
  have hrn:yO l d.var=true:=by rw[hjr];simp[m0]
  simp[h0,h1,h5,hc,hv',hj,hjl,c2',j0,j1,m0];refine qFM (fun n env U=>∃k:Nat,k<=i/\n=i-k/\env 0=.sl 4 (l.map qM) .none/\env 1=.sl 2 (ds.map zs) .none/\env 5=.int .i64 i/\env 6=.int .i64 k/\U=⟨tl,[]⟩/\∀y∈ds.take k,¬y.var=d.var) i ?_ ?_
  . exact⟨0,by omega,by omega,by simp[h0],by simp[h1],by simp[h5],by simp⟩
  rintro n env U ⟨k,hk,rfl,h0,h1,h5,h6,rfl,hall⟩;by_cases hki:k<i
  . have hki':(k:Int)<i:=(by omega);have hkl:k<ds.length:=(by omega);by_cases he:ds[k].var=d.var
    . have hdp:((ds.take i).any fun y=>y.var==d.var)=true:=by
       refine qBr.2 ⟨ds[k],?_,by simpa using he⟩;rw[qEG];exact⟨k,by omega,rfl⟩
      have x:jT l ds i=8:=(by simp only[jT,hv,hrn,hdp];rfl);rw[bad (by rw[x];decide),x];have he':ds[k].var=(j:Int):=(by rw[he,hj]);simp[h0,h1,h5,h6,hc,hv',hki,hkl,he,hj]
    have he':¬ds[k].var=(j:Int):=(by rwa[<- hj]);simp[h0,h1,h5,h6,hc,hv',hki,hkl,he',hj];refine⟨_,by omega,k+1,by omega,rfl,wr (by omega) (by omega),?_⟩;intro y hy;rw[qBi,qAW hkl]at hy;rcases qBb.1 hy with hy|hy
    . have:=hall y hy;rwa[hj]at this
    simp at hy;rwa[hy]
  have hki':¬(k:Int)<i:=by omega
  have hkk:k=i:=by omega
  subst hkk;have hdp:((ds.take k).any fun y=>y.var==d.var)=false:=by
   rw[qCe];intro e;obtain⟨y,h1,h2⟩:=qBr.1 e;exact hall y h1 (by simpa using h2)
  by_cases h16:16<d.weights.length
  . have h16':(16:Int)<d.weights.length:=(by omega);have x:jT l ds k=2:=(by simp only[jT,hv,hrn,hdp,h16];rfl);rw[bad (by rw[x];decide),x];simp[h1,h5,h6,hc,hv',h16']
  have h16':¬(16:Int)<d.weights.length:=by omega
  simp[h1,h5,h6,hc,hv',h16'];refine qFM (fun n env U=>∃q tl,q<=d.weights.length/\n=d.weights.length-q/\env 0=.sl 4 (l.map qM) .none/\env 1=.sl 2 (ds.map zs) .none/\env 5=.int .i64 k/\env 7=.int .i64 q/\U=⟨tl,[]⟩/\∀w∈d.weights.take q,zY w=false) d.weights.length ?_ ?_
  . exact⟨0,tl,by omega,by omega,by simp[h0],by simp[h1],by simp[h5],by simp⟩
  rintro n env U ⟨q,tl,hq,rfl,h0,h1,h5,h7,rfl,hwz⟩
  cases hwq:d.weights[q]? with
  | none=>
   have hcq:¬q<d.weights.length:=(by simp at hwq;omega);rw[show d.weights.take q=d.weights from qAZ (by omega)]at hwz;have hwt:d.weights.any zY=false:=by
    rw[qCe];intro e;obtain⟨y,h1,h2⟩:=qBr.1 e;rw[hwz y h1]at h2;cases h2
   have x:jT l ds k=0:=(by simp only[jT,hv,hrn,hdp,h16,hwt];rfl);simp[h0,h1,h5,h7,hc,hv',hcq,hiw];exact⟨_,by omega,k+1,by omega,rfl,rfl,next x⟩
  | some w=>
   obtain⟨hcq,hwq'⟩:=qAU.1 hwq;have hmw:=qAV hwq;have badw:zY w=true->yB l ds=1:=fun h=>by
    have x:jT l ds k=1:=(by simp only[jT,hv,hrn,hdp,h16,show d.weights.any zY=true from qBr.2 ⟨w,hmw,h⟩];rfl);rw[bad (by rw[x];decide),x]
   by_cases w1:w.lo<0
   . rw[badw (by simp[zY,w1])];simp[h0,h1,h5,h7,hc,hv',hcq,hwq',qBx,w1]
   by_cases w2:w.hi<w.lo
   . rw[badw (by simp[zY,w2])];simp[h0,h1,h5,h7,hc,hv',hcq,hwq',qBx,w1,w2]
   by_cases w3:65535<w.hi
   . rw[badw (by simp[zY,w3])];simp[h0,h1,h5,h7,hc,hv',hcq,hwq',qBx,w1,w2,w3]
   by_cases w4:w.weight<0
   . rw[badw (by simp[zY,w4])];simp[h0,h1,h5,h7,hc,hv',hcq,hwq',qBx,w1,w2,w3,w4]
   by_cases w5:1000<w.weight
   . rw[badw (by simp[zY,w5])];simp[h0,h1,h5,h7,hc,hv',hcq,hwq',qBx,w1,w2,w3,w4,w5]
   simp[h0,h1,h5,h7,hc,hv',hcq,hwq',qBx,w1,w2,w3,w4,w5];exact⟨_,by omega,q+1,by omega,rfl,wr (by omega) (by have:=hw d hm;omega),q9 hwq hwz (by simp[zY,w1,w2,w3,w4,w5])⟩
