/- A part of the proof. -/
import Derived.Test.YtkpkjbchlabaaaaGreatDoorSa10
set_option maxHeartbeats 16000000
set_option linter.unusedVariables false
set_option linter.unusedSimpArgs false
set_option maxRecDepth 100000
set_option linter.defProp false
section
namespace Go.Proofs.YtkpkjbchlabaaaaGreatDoor
open Go Go.Abs
theorem qpD (l:List Var)(ds:List Dist)(hl:Fits l)(hd:Fits ds)(hw:∀ d∈ds,Fits d.weights):Pure Tryz.prog GG 48 [.sl 4 (l.map qA) .none,.sl 2 (ds.map zH) .none] (.int .i64 (jZ l ds)):=by
 refine Pure.vc qe Tryz.func48 rfl (by kernel_rfl) ?_;simp;refine qy.intro (fun n env U=>∃ i tl,i<=ds.length/\n=ds.length-i/\env 0=.sl 4 (l.map qA) .none/\env 1=.sl 2 (ds.map zH) .none/\env 5=.int .i64 i/\U=⟨tl,[]⟩/\∀ j,j<i->jz l ds j=0) ds.length ⟨0,[],by simp⟩ ?_;rintro n env U ⟨i,tl,hi,rfl,h0,h1,h5,rfl,hz⟩
 cases hv:ds[i]? with
 | none=>
  have hc:¬ i<ds.length:=by simp at hv;omega
  have x:jZ l ds=0:=qiv fun j hj=>hz j (by omega)
  rw[x];simp[h0,h1,h5,hc]
 | some d=>
  obtain⟨hc,hv'⟩:=qqc.1 hv;have hm:=qqd hv;have bad:jz l ds i≠0->jZ l ds=jz l ds i:=fun h=>qng hc hz h
  have next:jz l ds i=0->∀ j,j<i+1->jz l ds j=0:=fun h j hj=>by
   rcases qrd.1 hj with hj|rfl
   . exact hz j hj
   . exact h
  have hiw:IntKind.i64.wrap ((i:Int)+1)=((i+1:Nat):Int):=by rw[wr (by omega) (by omega)];omega
  by_cases c1:d.var<0
  . have hrn:yi l d.var=false:=(by simp[yi];intro h;omega);have x:jz l ds i=1:=(by simp[jz,hv,hrn]);rw[bad (by rw[x];decide),x];simp[h0,h1,h5,hc,hv',c1]
  by_cases c2:(l.length:Int)<=d.var
  . have hrn:yi l d.var=false:=by
     cases e:yi l d.var
     . rfl
     . have:=Zp e;omega
    have x:jz l ds i=1:=(by simp[jz,hv,hrn]);rw[bad (by rw[x];decide),x];simp[h0,h1,h5,hc,hv',c1,c2]
  obtain⟨j,hj⟩:=qqL (show 0<=d.var by omega);have hjl:j<l.length:=by omega
  have hjr:yi l d.var=(l[j].mode != 0):=by rw[hj];simp[yi,qqe hjl]
  have c2':¬ l.length<=j:=by omega
  have j0:¬ (j:Int)<0:=by omega
  have j1:(0:Int)<=j:=by omega
  by_cases m0:l[j].mode=0
  . have hrn:yi l d.var=false:=(by rw[hjr];simp[m0]);have x:jz l ds i=1:=(by simp[jz,hv,hrn]);rw[bad (by rw[x];decide),x];simp[h0,h1,h5,hc,hv',hj,hjl,c2',j0,j1,m0]
  have hrn:yi l d.var=true:=by rw[hjr];simp[m0]
  simp[h0,h1,h5,hc,hv',hj,hjl,c2',j0,j1,m0];refine qy.intro (fun n env U=>∃ k:Nat,k<=i/\n=i-k/\env 0=.sl 4 (l.map qA) .none/\env 1=.sl 2 (ds.map zH) .none/\env 5=.int .i64 i/\env 6=.int .i64 k/\U=⟨tl,[]⟩/\∀ y∈ds.take k,¬ y.var=d.var) i ?_ ?_
  . exact⟨0,by omega,by omega,by simp[h0],by simp[h1],by simp[h5],by simp,rfl,by simp⟩
  clear h0 h1 h5;rintro n env U ⟨k,hk,rfl,h0,h1,h5,h6,rfl,hall⟩;by_cases hki:k<i
  . have hki':(k:Int)<i:=(by omega);have hkl:k<ds.length:=(by omega);have hkv:ds[k]?=some ds[k]:=qqe hkl;by_cases he:ds[k].var=d.var
    . have hdp:((ds.take i).any fun y=>y.var==d.var)=true:=by
       refine qqF.2 ⟨ds[k],?_,by simpa using he⟩;rw[qtp];exact⟨k,by omega,rfl⟩
      have x:jz l ds i=8:=(by simp only[jz,hv,hrn,hdp];rfl);rw[bad (by rw[x];decide),x];have he':ds[k].var=(j:Int):=(by rw[he,hj]);simp[h0,h1,h5,h6,hc,hv',hki,hkl,he,he',hj]
    . have he':¬ ds[k].var=(j:Int):=(by rw[<- hj];exact he);simp[h0,h1,h5,h6,hc,hv',hki,hkl,he',hj];refine⟨_,by omega,k+1,by omega,rfl,wr (by omega) (by omega),?_⟩;intro y hy;rw[qqH,hkv]at hy;rcases qqA.1 hy with hy|hy
      . have:=hall y hy;rwa[hj]at this
      . simp at hy;rw[hy];exact he'
  . have hki':¬ (k:Int)<i:=(by omega);have hkk:k=i:=(by omega);subst hkk;have hdp:((ds.take k).any fun y=>y.var==d.var)=false:=by
     rw[qrq];intro e;obtain⟨y,h1,h2⟩:=qqF.1 e;exact hall y h1 (by simpa using h2)
    by_cases h16:16<d.weights.length
    . have h16':(16:Int)<d.weights.length:=(by omega);have x:jz l ds k=2:=(by simp only[jz,hv,hrn,hdp,h16];rfl);rw[bad (by rw[x];decide),x];simp[h0,h1,h5,h6,hc,hv',h16']
    . have h16':¬ (16:Int)<d.weights.length:=(by omega);simp[h0,h1,h5,h6,hc,hv',h16'];refine qy.intro (fun n env U=>∃ q tl,q<=d.weights.length/\n=d.weights.length-q/\env 0=.sl 4 (l.map qA) .none/\env 1=.sl 2 (ds.map zH) .none/\env 5=.int .i64 k/\env 7=.int .i64 q/\U=⟨tl,[]⟩/\∀ w∈d.weights.take q,zK w=false) d.weights.length ?_ ?_
      . exact⟨0,tl,by omega,by omega,by simp[h0],by simp[h1],by simp[h5],by simp,rfl,by simp⟩
      clear h0 h1 h5 h6;rintro n env U ⟨q,tl,hq,rfl,h0,h1,h5,h7,rfl,hwz⟩
      cases hwq:d.weights[q]? with
      | none=>
       have hcq:¬ q<d.weights.length:=(by simp at hwq;omega);have ht:d.weights.take q=d.weights:=qqk (by omega);rw[ht]at hwz;have hwt:d.weights.any zK=false:=by
        rw[qrq];intro e;obtain⟨y,h1,h2⟩:=qqF.1 e;rw[hwz y h1]at h2;cases h2
       have x:jz l ds k=0:=(by simp only[jz,hv,hrn,hdp,h16,hwt];rfl);simp[h0,h1,h5,h7,hc,hv',hcq,hiw];exact⟨_,by omega,k+1,by omega,rfl,rfl,next x⟩
      | some w=>
       obtain⟨hcq,hwq'⟩:=qqc.1 hwq;have hmw:=qqd hwq;have badw:zK w=true->jZ l ds=1:=fun h=>by
        have hwt:d.weights.any zK=true:=qqF.2 ⟨w,hmw,h⟩;have x:jz l ds k=1:=(by simp only[jz,hv,hrn,hdp,h16,hwt];rfl);rw[bad (by rw[x];decide),x]
       by_cases w1:w.lo<0
       . rw[badw (by simp[zK,w1])];simp[h0,h1,h5,h7,hc,hv',hcq,hwq',qqx,w1]
       by_cases w2:w.hi<w.lo
       . rw[badw (by simp[zK,w2])];simp[h0,h1,h5,h7,hc,hv',hcq,hwq',qqx,w1,w2]
       by_cases w3:65535<w.hi
       . rw[badw (by simp[zK,w3])];simp[h0,h1,h5,h7,hc,hv',hcq,hwq',qqx,w1,w2,w3]
       by_cases w4:w.weight<0
       . rw[badw (by simp[zK,w4])];simp[h0,h1,h5,h7,hc,hv',hcq,hwq',qqx,w1,w2,w3,w4]
       by_cases w5:1000<w.weight
       . rw[badw (by simp[zK,w5])];simp[h0,h1,h5,h7,hc,hv',hcq,hwq',qqx,w1,w2,w3,w4,w5]
       have hwb:zK w=false:=(by simp[zK,w1,w2,w3,w4,w5]);simp[h0,h1,h5,h7,hc,hv',hcq,hwq',qqx,w1,w2,w3,w4,w5];exact⟨_,by omega,q+1,by omega,rfl,wr (by omega) (by have:=hw d hm;omega),zb hwq hwz hwb⟩
end Go.Proofs.YtkpkjbchlabaaaaGreatDoor
end
