import Derived.Test.YtimecmegnocamaaGreatDoorPq37
set_option maxRecDepth 100000
set_option maxHeartbeats 16000000
set_option linter.all false
set_option linter.defProp false
namespace Go.Proofs.YtimecmegnocamaaGreatDoor
open Go Go.Abs Tryz
def kx(vs:List Var)(l:List Int):Int:=(l.map fun i=>zP vs i.toNat).sum
def Vj(vs l i):kx vs (l++[i])=kx vs l+zP vs i.toNat:=by simp[kx]
def Jj{vs}(hw:∀v∈vs,0<=v.width)(n):0<=zP vs n:=by
 unfold zP;split
 . rename_i v hv;exact hw v (qAV hv)
 omega
def Yw{vs}(hw:∀v∈vs,0<=v.width):∀l:List Int,0<=kx vs l
 |[]=>by simp[kx]
 | a::r=>by
  have:=Yw hw r;have:=Jj hw a.toNat;simp only[kx,qA7,qDl]at *;omega
def qbW(vs l m):kx vs (l++m)=kx vs l+kx vs m:=by simp[kx]
def Vi{vs}(hw:∀v∈vs,0<=v.width)(l k):kx vs (l.take k)<=kx vs l:=by
 have h1:=qbW vs (l.take k) (l.drop k);rw[qBF]at h1;have:=Yw hw (l.drop k);omega
def qf9{vs}{l:List Int}(hl:∀i∈l,∃n:Nat,i=n/\n<vs.length)(hnd:l.Nodup):∀m,m<=l.length->(wI vs (l.take m)).2=kx vs (l.take m)/\∀k (i:Int),k<m->l[k]?=some i->(wI vs (l.take m)).1[i.toNat]?=some (kx vs (l.take k))
 |0,_=>⟨by simp[wI,kx],fun k i h=>by omega⟩
 | m+1,hm=>by
  obtain⟨ih1,ih2⟩:=qf9 hl hnd m (by omega);obtain⟨j,hj⟩:∃j,l[m]?=some j:=⟨_,qAW (by omega)⟩;have ht:l.take (m+1)=l.take m++[j]:=by rw[qBi,hj];rfl
  obtain⟨n,rfl,hn⟩:=hl j (qAV hj);have hlen:=ZW vs (l.take m);rw[ht,VK,Vj];refine⟨by simp only[vK,ih1],fun k i hk hi=>?_⟩;simp only[vK,qBu];by_cases hkm:k=m
  . subst hkm;rw[hj]at hi;cases hi;rw[qBu,qA0 (by omega),ih1]
  obtain⟨n2,rfl,hn2⟩:=hl i (qAV hi);have hne:n≠n2:=by
   rintro rfl;have hp:=qCH.1 hnd;obtain⟨a1,a2⟩:=qAU.1 hj;obtain⟨b1,b2⟩:=qAU.1 hi;exact hp k m b1 a1 (by omega) (by rw[a2,b2])
  rw[qBu,qAX hne];exact ih2 k _ (by omega) hi
def qbU{f:Int->Int}:∀{l:List Int}{a:Int},a∈l->((l.erase a).map f).sum+f a=(l.map f).sum
 | x::r,a,h=>by
  rw[List.erase_cons];split
  . rename_i hx;have:x=a:=by simpa using hx
    subst this;simp;omega
  rename_i hx;have hx:¬x=a:=by simpa using hx
  have h2:a∈r:=(qBt.1 h).resolve_left (Ne.symm hx);have:=qbU (f:=f) h2;simp;omega
def qd2{f:Int->Int}(hf:∀i,0<=f i):∀(n:Nat) (l:List Int),l.Nodup->(∀x∈l,0<=x/\x<n)->(l.map f).sum<=((List.range n).map fun k:Nat=>f k).sum
 | 0,l,_,h=>by
  cases l with
  |nil=>simp
  |cons a r=>have:=h a (by simp);omega
 | n+1,l,hn,h=>by
  rw[qCk,qBV,List.sum_append];simp only[qA7,qBy,qDl,qFd];by_cases hm:(n:Int)∈l
  . have h1:=qd2 hf n (l.erase (n:Int)) (hn.erase _) fun x hx=>by
     have h2:=(hn.mem_erase_iff).1 hx;have:=h x h2.2;omega
    have:=qbU (f:=f) hm;omega
  have h1:=qd2 hf n l hn fun x hx=>by
   have:=h x hx;have h2:x≠(n:Int):=fun e=>hm (e▸hx)
   omega
  have:=hf n;omega
def qrm(vs:List Var)(i:Int):Int:=if yO vs i=true then zP vs i.toNat else 0
def qlK:∀(vs),((List.range vs.length).map fun k:Nat=>qrm vs k).sum=yE vs:=by
 have gen:∀(vs pre:List Var),((List.range' pre.length vs.length).map fun k:Nat=>qrm (pre++vs) k).sum=yE vs:=by
  intro vs
  induction vs with
  |nil=>intro pre;rfl
  | cons v r ih=>
   intro pre;have:=ih (pre++[v]);rw[qBE,qC5,qAY,qBo]at this;rw[qBc,qC3,qA7,qDl,this];simp only[yE];congr 1;simp only[qrm,yO,zP,qBu,show(pre++v::r)[pre.length]?=some v by rw[qA4 (qA5 _),qBS];rfl];by_cases hm:v.mode=0<;>simp[hm]
 intro vs;have:=gen vs []
 rwa[qB8,<- qCP,qBk]at this
def qhg{p}(h:qo p=0):yE p.vars<=20:=by
 have hv:jg p.vars=0:=by
  unfold qo at h;split at h
  . exact absurd h (by assumption)
  rename_i h1;exact qB1.1 h1
 unfold jg at hv;split at hv
 . cases hv
 split at hv
 . rename_i h1;exact absurd hv h1
 split at hv
 . cases hv
 split at hv
 . cases hv
 split at hv
 . cases hv
 omega
def YG{p}(h:qo p=0):∀i∈p.groups.flatten,∃n:Nat,i=n/\n<p.vars.length:=fun i hi=>by
 obtain⟨n,v,rfl,hn,_⟩:=ZK ((j5 h).2.1 i hi);exact⟨n,rfl,(qAU.1 hn).1⟩
def QD{p}(h:qo p=0):∀v∈p.vars,0<=v.width:=fun v hm=>by have:=zi (jd h v hm);omega
def We{p}(h:qo p=0):kx p.vars p.groups.flatten<=20:=by
 have h1:=qd2 (f:=qrm p.vars) (fun i=>by unfold qrm;split;exact Jj (QD h) _;omega) p.vars.length p.groups.flatten (j5 h).2.2.1 (fun i hi=>by
  obtain⟨n,rfl,hn⟩:=YG h i hi;omega)
 rw[qlK]at h1;have h2:=qhg h;have h3:(p.groups.flatten.map (qrm p.vars)).sum=kx p.vars p.groups.flatten:=by
  unfold kx;congr 1;exact qCa fun i hi=>by unfold qrm;rw[if_pos ((j5 h).2.1 i hi)]
 omega
def kK(p):(qS p).length=p.vars.length:=ZW p.vars _
def KR{p:Problem}(h:qo p=0){k:Nat}{n:Nat}(hk:p.groups.flatten[k]?=some (n:Int)):(qS p)[n]?=some (kx p.vars (p.groups.flatten.take k)):=by
 have h1:=(qf9 (YG h) (j5 h).2.2.1 p.groups.flatten.length (qA5 _)).2 k _ (qAU.1 hk).1 hk
 rwa[qCr,qBu]at h1
def qjI{p:Problem}(h:qo p=0){n:Nat}{v:Var}(hv:p.vars[n]?=some v)(hm:v.mode≠0):∃k:Nat,p.groups.flatten[k]?=some (n:Int):=by
 have:=(j5 h).2.2.2 n (qAU.1 hv).1 (by simp[*,yO]);exact qBB this
def qkt{p:Problem}(h:qo p=0):∀(i:Nat) (v:Var) (l:Int),p.vars[i]?=some v->(qS p)[i]?=some l->v.mode≠0->0<=l/\l+v.width<=20:=fun i v l hv hl hm=>by
 obtain⟨k,hk⟩:=qjI h hv hm;have h1:=KR h hk;rw[hl]at h1;cases h1;have h2:=Yw (QD h) (p.groups.flatten.take k);have h3:=Vi (QD h) p.groups.flatten (k+1);rw[show p.groups.flatten.take (k+1)=p.groups.flatten.take k++[(i:Int)] by rw[qBi,hk];rfl,Vj]at h3;have h5:zP p.vars (i:Int).toNat=v.width:=by simp[zP,hv]
 have h6:=We h;omega
def qzM(p:Problem)(H:List Blk)(r:AV)(U':St):Prop:=KpL [] H U'.H/\((zy p=[]/\r=.sl 4 [] .tight)\/∃b,zy p≠[]/\r=.ms b 0 (zy p).length 4/\U'.H[b]?=some (.cells ((zy p).flatMap qt))/\H.length<=b)
def qzZ{α:Type}{H:List α}{p q:α}:(H++[p,q])[H.length+1]?=some q:=by rw[qA4 (by omega),qB0];rfl
def qup(b N k)(h:k<N):zk (.ms b 0 N 4) (some (.int .i64 (k:Int))) none none=some (.ms b (k*4) (N-k) 4):=by
 show(if(0:Int)<=k/\(k:Int)<=N/\(N:Int)<=N/\((k:Int)=0\/(k:Int)<N) then some (AV.ms b (0+(k:Int).toNat*4) ((N:Int).toNat-(k:Int).toNat) 4) else if(k:Int)=N/\(N:Int)=N then some (.sl 4 [] .none) else none)=_;rw[if_pos ⟨by omega,by omega,by omega,by omega⟩];simp
def qra(b N)(h:0<N):zk (.ms b 0 N 4) (some (.int .i64 (N:Int))) none none=some (.sl 4 [] .none):=by
 show(if(0:Int)<=N/\(N:Int)<=N/\(N:Int)<=N/\((N:Int)=0\/(N:Int)<N) then some (AV.ms b (0+(N:Int).toNat*4) ((N:Int).toNat-(N:Int).toNat) 4) else if(N:Int)=N/\(N:Int)=N then some (.sl 4 [] .none) else none)=_;rw[if_neg (by omega),if_pos ⟨rfl,rfl⟩]
def VJ(p)(h:VQ p)(hd:p.dists.length<=10000)(H T):qj prog GG 67 [.agg (qA p)] ⟨H,T⟩ (qzM p H):=by
 refine qFn ⟨true,[],[],[]⟩ qg func67 rfl (by kernel_rfl) ?_;have hs:=JR p h hd;have hh:=h.hard;have hsl:(jF p).length<=10000:=by
  unfold jF;split
  . simp[wk,hd]
  simp
 have hn:zy p=p.hard++jF p:=rfl;generalize jF p=S at *;obtain⟨Q,hQ⟩:∃Q,Q=qzM p H:=⟨_,rfl⟩;rw[<- hQ];have fin0:p.hard++S=[]->∀u T',Q (.sl 4 [] .tight) ⟨H++u,T'⟩:=fun he u T'=>by rw[hQ];exact⟨qFX,.inl ⟨by rw[hn,he],rfl⟩⟩
 have yb:p.hard++S≠[]->∀(B0:Blk) (T':List (Option Nat)),Q (.ms (H.length+1) 0 (p.hard.length+S.length) 4) ⟨H++[B0,.cells ((p.hard++S).flatMap qt)],T'⟩:=fun he B0 T'=>by
  rw[hQ];refine⟨qFX,.inr ⟨H.length+1,by rw[hn];exact he,by rw[hn,qAY],?_,by omega⟩⟩;rw[hn];exact qzZ
 simp only[qA]at hs;have hw:=wr (n:=(p.hard.length:Int)+S.length) (by omega) (by omega);by_cases h0:p.hard=[]/\S=[]
 . obtain⟨h1,h2⟩:=h0;subst h2;have fin0:=fin0 (by rw[h1];rfl);rw[h1]at hs hw;simp[h1];refine qFp hs (by simp) ?_;simp[show IntKind.i64.wrap 0=0 by decide,mkX,qG,kq,qbu,zk,zR,yT,zT];exact fin0 _ _
 have hpos:0<p.hard.length+S.length:=by
  rcases qCh (p.hard.length+S.length) with h|h
  . exact absurd ⟨qA6 (by omega),qA6 (by omega)⟩ h0
  exact h
 have hne2:p.hard++S≠[]:=by simpa using h0
 have yb:=yb hne2;have hnz:¬(p.hard.length:Int)+S.length=0:=by omega
 have hle:(p.hard.length:Int)+S.length<=549755813888:=by omega
 have hge:(0:Int)<=(p.hard.length:Int)+S.length:=by omega
 have htn:((p.hard.length:Int)+S.length).toNat=p.hard.length+S.length:=by omega
 have hmk:∀U:St,mkX (Dof prog) true U 23 (.int .i64 ((p.hard.length:Int)+S.length)) (.int .i64 ((p.hard.length:Int)+S.length))=none:=fun U=>by
  have:∀z:Int,z≠0->mkX (Dof prog) true U 23 (.int .i64 z) (.int .i64 z)=none:=fun z hz=>by
   unfold mkX;split
   . rename_i h1 _;simp at h1;exact absurd h1.2 hz
   rfl
  exact this _ hnz
 obtain⟨Z,hZ⟩:∃Z,Z=(List.replicate (p.hard.length+S.length) [AV.int .i64 0,.int .i64 0,.str [],.sl 0 [] .nil]).flatten:=⟨_,rfl⟩;have hZl:Z.length=(p.hard.length+S.length)*4:=by rw[hZ];simp
 have hAl:=Go.Abs.ju (sz:=4) zo p.hard;have h2:=qci (p.hard.flatMap qt) (S.flatMap qt) Z (by rw[hZl,hAl,Go.Abs.ju (sz:=4) zo S,qBW]);rw[hAl,<- List.flatMap_append]at h2;have ls:∀(B0 C D:Blk),(H++[B0,C]).set (H.length+1) D=H++[B0,D]:=fun B0 C D=>by rw[qBK _ _ (by omega),qB0];rfl
 have hc1:∀B0:Blk,kq (Dof prog) ⟨H++[B0,.cells Z],T⟩ 23 (.ms (H.length+1) 0 (p.hard.length+S.length) 4) (.sl 4 (p.hard.map qt) .none)=some (.int .i64 p.hard.length,⟨H++[B0,.cells (zA Z 0 (p.hard.flatMap qt))],T⟩):=fun B0=>by
  by_cases hh0:p.hard=[]
  . simp[kq,qbu,hh0,zA]
  have hm:min p.hard.length (p.hard.length+S.length)=p.hard.length:=by omega
  have hl:p.hard.length*4<=(p.hard.length+S.length)*4:=by omega
  simp[kq,qbu,qpE,hm,hh0,show(p.hard.map qt).take p.hard.length=p.hard.map qt from qAZ (by simp),show(p.hard.map qt).flatten=p.hard.flatMap qt by rw[qCD],hZl,hl,ls]
 by_cases hS0:S=[]
 . subst hS0;have hhp:0<p.hard.length:=(by simpa using hpos);have hsl2:=qra (H.length+1) p.hard.length hhp;have hpa:zA Z 0 (p.hard.flatMap qt)=p.hard.flatMap qt:=putAt_all _ _ (by rw[hZl,hAl];simp);rw[hpa]at hc1;simp only[qB8,qCy,qDt,Int.add_zero]at hw hnz hle hge htn hZ hc1 hmk;simp only[qBy]at hs;simp only[qBC,qB8,qCy]at yb;generalize p.hard.flatMap qt=FE at *;simp;refine qFp hs (by simp) ?_;simp[hw,hle,hge,qBf.1 hhp,hmk,qG,<- hZ,hc1,hsl2,show ∀U:St,kq (Dof prog) U 23 (.sl 4 [] .none) (.sl 4 [] .none)=some (.int .i64 0,U) from fun U=>by simp[kq,qbu]];exact yb _ _
 have hSp:=qBf.2 hS0;have hsl2:zk (.ms (H.length+1) 0 (p.hard.length+S.length) 4) (some (.int .i64 p.hard.length)) none none=some (.ms (H.length+1) (p.hard.length*4) S.length 4):=by
  rw[qup _ _ _ (by omega),show p.hard.length+S.length-p.hard.length=S.length by omega]
 have hc2:∀B0:Blk,kq (Dof prog) ⟨H++[B0,.cells (zA Z 0 (p.hard.flatMap qt))],T⟩ 23 (.ms (H.length+1) (p.hard.length*4) S.length 4) (.sl 4 (S.map qt) .none)=some (.int .i64 S.length,⟨H++[B0,.cells ((p.hard++S).flatMap qt)],T⟩):=fun B0=>by
  simp[kq,qbu,qpE,hS0,show(S.map qt).take S.length=S.map qt from qAZ (by simp),show(S.map qt).flatten=S.flatMap qt by rw[qCD],show(zA Z 0 (p.hard.flatMap qt)).length=(p.hard.length+S.length)*4 by rw[Kx,hZl],show p.hard.length*4+S.length*4<=(p.hard.length+S.length)*4 by omega,-List.flatMap_append,h2,ls]
 generalize (p.hard++S).flatMap qt=FE at *;generalize zA Z 0 (p.hard.flatMap qt)=Z1 at *;generalize p.hard++S=PS at *;simp;refine qFp hs (by simp) ?_;simp[hw,hnz,hle,hge,hmk,qG,htn,<- hZ,hc1,hsl2,hc2];exact yb hne2 _ _
def qgv{α:Type}{sz:Nat}{en:α->List AV}(hl:∀x,(en x).length=sz):∀{l:List α}{i:Nat}{v:α},l[i]?=some v->((l.flatMap en).drop (i*sz)).take sz=en v
 |[],i,v,h=>by simp at h
 | a::r,0,v,h=>by
  simp at h;subst h;rw[qBm,qCK,qBZ,qB6 (by rw[hl];exact qA5 _),qAZ (by rw[hl];exact qA5 _)]
 | a::r,i+1,v,h=>by
  have ih:=qgv hl (l:=r) (i:=i) (v:=v) (by simpa using h);have e:(i+1)*sz=sz+i*sz:=by rw[qDs,qCX]
  rw[qBm,e,qCN,qBq (by rw[hl];omega),hl,qBk,qB0,ih]
def qqA(b:Nat)(H:List Blk)(v:AV)(l:List Ex):Prop:=(l=[]/\v=.sl 4 [] .tight)\/(l≠[]/\v=.ms b 0 l.length 4/\H[b]?=some (.cells (l.flatMap qt)))
def qqA.append{b H T v l}(h:qqA b H v l)(x)(hl:l.length<=1000000):
 ∃H',zx (Dof prog) ⟨H,T⟩ 23 23 v (.sl 4 [qt x] .tight)=some (.ms H.length 0 (l.length+1) 4,⟨H',T⟩)/\qqA H.length H' (.ms H.length 0 (l.length+1) 4) (l++[x])/\(∀(k) (y),H[k]?=some y->(l=[]\/k≠b)->H'[k]?=some y)/\H.length<=H'.length:=by
 rcases h with⟨rfl,rfl⟩|⟨hne,rfl,hb⟩
 . refine⟨H++[.cells (qt x)],?_,?_,fun k y hk _=>qf hk _,by simp⟩
   . simp[zx,ja,Kc,qV]
   . exact .inr ⟨by simp,by simp⟩
 have h1:l.length+1<=549755813888:=by omega
 have hfl:=Go.Abs.ju (sz:=4) zo l;have hle:l.length*4<=(l.flatMap qt).length:=by omega
 refine⟨H.set b .dead++[.cells (l.flatMap qt++qt x)],?_,?_,fun k y hk hkb=>?_,by simp⟩
 . rw[hfl]at hle;simp[*,zx,ja,Kc,qV,show(l.flatMap qt).take (l.length*4)=l.flatMap qt from qAZ (by omega)]
 . exact .inr ⟨by simp,by simp⟩
 exact qf (by rw[qAX (Ne.symm (hkb.resolve_left hne))];exact hk) _
def qqA.len{b H v l}(h:qqA b H v l)(U):YD (Dof prog) U 23 v=some (.int .i64 (l.length:Nat)):=by
 rcases h with⟨rfl,rfl⟩|⟨_,rfl,_⟩<;>simp
def KX(vs):∀(L) (R),∀q∈yu vs R L,q∈L
 |[],R,q,h=>by simp[yu]at h
 | x::r,R,q,h=>by
  unfold yu at h;split at h
  . rcases qBt.1 h with rfl|h
    . simp
    . exact qCg _ (KX vs r _ q h)
  exact qCg _ (KX vs r _ q h)
def KY(vs):∀(L) (R),(yu vs R L).length<=L.length
 |[],R=>by simp[yu]
 | x::r,R=>by
  unfold yu;split
  . have:=KY vs r (R++[x.2]);simp;omega
  have:=KY vs r R;simp;omega
def qnL{l q}(h:q∈Zj l):∃k:Nat,q.1=k/\l[k]?=some q.2:=by
 obtain⟨k,hk⟩:=qBB h;obtain⟨_,h2,h3⟩:=qeq hk;exact⟨_,h2,h3⟩
def qew{p q}(h:q∈Zk p):∃k:Nat,q.1=k/\p.soft[k]?=some q.2:=qnL (KX _ _ _ q (by simpa[Zk] using h))
def qaN(p):(Zk p).length<=p.soft.length:=by
 unfold Zk;rw[qEn];exact qBN (KY _ _ _) (by rw[qaC];exact qA5 _)
noncomputable def qC(p:Problem):List Ex×Int :=
 if qo p=0 then(if jQ p.vars (zy p)=true then(qjE p,0) else([],11)) else([],1)
def wQ(p):(qC p).2=(yS p).2:=by
 unfold qC yS;split
 . split<;>rfl
 rfl
def v7{p}(h:(yS p).2=0):qo p=0/\jQ p.vars (zy p)=true/\qC p=(zy p++(Zk p).map (·.2),0)/\(yS p).1=(Zk p).map (·.1):=by
 unfold yS at h;split at h
 . rename_i hv;split at h
   . rename_i hs;have hn:zy p=qes p:=by
      show p.hard++jF p=_;rw[jF,if_pos hv];rfl
     refine⟨hv,hs,?_,?_⟩
     . unfold qC qjE;rw[if_pos hv,if_pos hs,hn]
     unfold yS Zk;rw[if_pos hv,if_pos hs,hn]
   simp at h
 simp at h
def qmc(p)(h:VQ p)(hv20:p.vars.length<=20)(hb:wh p.vars (qQ p)<=18)(hd:p.dists.length<=10000)(hs5:p.soft.length<=10000):
 Pure prog GG 35 [.agg (qA p)] (.tup [.sl 4 ((qC p).1.map qt) .none,.int .i64 (qC p).2]):=by
 have hkp:=qmi p h hv20 hb hd hs5;by_cases he:(yS p).2=0
 case neg=>
  have hre:=wQ p;have hr0:(qC p).1=[]:=by
   unfold qC yS at *;split
   . rename_i hv;split
     . rename_i hs;rw[if_pos hv,if_pos hs]at he;exact absurd rfl he
     rfl
   rfl
  rw[hr0,hre];refine qFl o0 true qg func35 rfl (by kernel_rfl) ?_;simp at hkp;simp;refine qFp hkp (by simp) ?_;simp[he];rw[qF (by simp)];exact⟨by simp,by simp[Leq,zm]⟩
 obtain⟨hv,hs,hrr,hk1⟩:=v7 he;rw[hk1,he]at hkp;rw[hrr];dsimp only;have hkl:=qaN p;have hka:=fun q (hq:q∈Zk p)=>qew hq
 generalize hKS:Zk p=KS at *;refine qFl ⟨true,[],[],[]⟩ true qg func35 rfl (by kernel_rfl) ?_;have hnd:=VJ p h hd [.cells (qA p)] [];have hknow:=Qf h hv;have h1:=h.hard;have h2:(jF p).length<=10000:=by
  have:jF p=wk p:=if_pos hv
  rwa[this,wk,qBA]
 have hNl:(zy p).length<=20000:=by rw[zy,qAY];omega
 obtain⟨RES,hRES⟩:∃RES,RES=zy p++KS.map (·.2):=⟨_,rfl⟩;have hRt:∀e∈RES,(pre e).length<=100000:=fun e hm=>by
  rw[hRES]at hm;rcases qBb.1 hm with hm|hm
  . exact(hknow e (qBJ _ hm)).2.2.2
  obtain⟨q,hq,rfl⟩:=qBj.1 hm;obtain⟨k,_,hk⟩:=hka q hq;exact(hknow q.2 (qCl _ (qAV hk))).2.2.2
 rw[<- hRES];simp at hkp hnd;simp;refine qFp hkp (by simp) ?_;simp;refine qFs hnd ?_;rintro v ⟨H1,T1⟩ ⟨hk,hr⟩;have bP:H1[0]?=some (.cells (qA p)):=hk.2 0 _ (by simp[qA]) (by simp);obtain⟨b,ho,hb0⟩:∃b,qqA b H1 v (zy p)/\b≠0:=by
  rcases hr with⟨hn,rfl⟩|⟨b,hne,rfl,hb1,hb2⟩
  . exact⟨1,.inl ⟨hn,rfl⟩,by omega⟩
  exact⟨b,.inr ⟨hne,rfl,hb1⟩,by simp at hb2;omega⟩
 clear hr hk;generalize zy p=N at *;simp;refine qFF KS (fun d ev U=>ev 1=.ptr 0 0/\ev 20=.sl 1 (KS.map fun q=>[AV.int .i64 q.1]) .none/\ev 21=.int .i64 KS.length/\ev 22=.int .i64 d.length/\∃H b T,U=⟨H,T⟩/\H[0]?=some (.cells (qA p))/\b≠0/\qqA b H (ev 6) (N++d.map (·.2))) ?_ ?_ ?_
 . refine⟨by simp,by simp,by simp,by simp,H1,b,T1,rfl,bP,hb0,by simpa using ho⟩
 . rintro d q rest ev U R hR hdl hx hlt ⟨e1,e20,e21,e22,H,b,T,rfl,bP,hb0,ho⟩;have hdw:=wr (n:=(d.length:Int)+1) (by omega) (by omega);have hlt':(d.length:Int)<KS.length:=(by omega);obtain⟨k,hk1,hk2⟩:=hka q (qAV hx);have hkl2:=(qAU.1 hk2).1;obtain⟨H',hap,ho',hkeep,hlen⟩:=ho.append (T:=T) q.2 (by rw[qAY,qBA];omega);have hHl:=(qAU.1 bP).1;have ha:=yN q.2;have hl4:=zo q.2;have htk:(qt q.2).take 4=qt q.2:=qAZ (by rw[hl4];exact qA5 _);have bP2:=hkeep 0 _ bP (by right;exact Ne.symm hb0);simp at bP;generalize hv6:ev 6=v6 at *;simp[-qZ,e1,e20,e21,e22,hlt',hx,hk1,hk2,bP,htk,ha,hl4,qi,qp,hap,hv6,hdw];refine hR _ _ ⟨by simp[e1],by simp[e20],by simp[e21],by simp,H',H.length,T,rfl,bP2,by omega,?_⟩;rw[show N++(d++[q]).map (·.2)=N++d.map (·.2)++[q.2] by simp];simpa using ho'
 rintro ev U ⟨e1,e20,e21,e22,H,b,T,rfl,bP,hb0,ho⟩;rw[<- hRES]at ho;have hlen:=ho.len ⟨H,T⟩;have hRl:RES.length<=1000000:=by rw[hRES,qAY,qBA];omega
 generalize hv6:ev 6=v6 at *;simp[-YD,e21,e22,hv6,hlen];refine qFF RES (fun d ev U=>ev 6=v6/\ev 36=.int .i64 RES.length/\ev 37=.int .i64 d.length/\∃H T,U=⟨H,T⟩/\qqA b H v6 RES) ?_ ?_ ?_
 . exact⟨by simp[hv6],by simp,by simp,H,T,rfl,ho⟩
 . rintro d x rest ev U R hR hdl hx hlt ⟨e6,e36,e37,H,T,rfl,ho⟩;have hdw:=wr (n:=(d.length:Int)+1) (by omega) (by omega);have hlt':(d.length:Int)<RES.length:=(by omega);have hcp:=qlq x (hRt x (qAV hx));rcases ho with⟨h0,_⟩|⟨hne,rfl,hbk⟩
   . rw[h0]at hx;simp at hx
   have hfl:=Go.Abs.ju (sz:=4) zo RES;have hl4:=zo x;have ha:=yN x;have hput:zA (RES.flatMap qt) (d.length*4) (qt x)=RES.flatMap qt:=by
    rw[QI zo RES d.length x hlt];have:RES.set d.length x=RES:=by
     apply qB2;intro j;by_cases hj:d.length=j
     . subst hj;rw[qA0 hlt,hx]
     rw[qAX hj]
    rw[this]
   have hcut:((RES.flatMap qt).drop (d.length*4)).take 4=qt x:=qgv zo hx;have hfit:d.length*4+4<=RES.length*4:=(by omega);have hset:H.set b (.cells (RES.flatMap qt))=H:=by
    apply qB2;intro j;by_cases hj:b=j
    . subst hj;rw[qA0 (qAU.1 hbk).1,hbk]
    rw[qAX hj]
   generalize hFF:RES.flatMap qt=F at *;simp[-qZ,e6,e36,e37,hlt',hbk,hfl,hfit,hcut];refine qFp hcp (by simp) ?_;simp[-qZ,e37,hlt',hbk,hfl,hfit,hl4,ha,hput,hset,hdw];exact hR _ _ ⟨by simp[e6],by simp[e36],by simp,H,T,rfl,.inr ⟨hne,rfl,by rw[hFF];exact hbk⟩⟩
 rintro ev U ⟨e6,e36,e37,H,T,rfl,ho⟩;simp[e6,e36,e37];rcases ho with⟨h0,rfl⟩|⟨hne,rfl,hbk⟩
 . rw[h0];have hf:frz H 7 (.sl 4 [] .tight)=.sl 4 [] .tight:=qF rfl;exact vz (by rw[hf];rfl) (by rw[hf];simp[Leq]) (by simp[Leq])
 have hoo:jr b 4 qt H (.ms b 0 RES.length 4) RES:=.inr ⟨hne,rfl,hbk⟩;exact vz (hoo.frzNo zo (fun x=>nrE x) jw 6) (hoo.frz zo (fun x=>nrE x) jw 6) (by simp)
def qz7(l:List Ex)(H:List Blk)(r:AV)(U':St):Prop:=∃tok,r=.tup [.sl 4 (l.map qt) tok,.int .i64 0]/\(l≠[]\/tok=.tight)/\KpL [] H U'.H
def qpj(p)(h:VQ p)(hv20:p.vars.length<=20)(hb:wh p.vars (qQ p)<=18)(hd:p.dists.length<=10000)(hs5:p.soft.length<=10000)(he:(qC p).2=0)(H T):
 qj prog GG 35 [.agg (qA p)] ⟨H,T⟩ (qz7 (qC p).1 H):=by
 by_cases hR:(qC p).1=[]
 case neg=>
  refine qj.call (qmc p h hv20 hb hd hs5) (by simp) ?_;rw[he];exact⟨.none,rfl,.inl hR,qFV⟩
 have hkp:=qmi p h hv20 hb hd hs5;rw[wQ]at he;obtain⟨hv,hs,hrr,hk1⟩:=v7 he;rw[hrr]at hR;have hR:zy p=[]/\Zk p=[]:=by simpa using hR
 rw[hrr,hR.1,hR.2];rw[hk1,he,hR.2]at hkp;have hnd:=fun H T=>VJ p h hd H T
 refine qFn ⟨true,[],[],[]⟩ qg func35 rfl (by kernel_rfl) ?_;simp only[qA]at hkp hnd;simp;refine qFp hkp (by simp) ?_;simp;refine qFs (hnd _ _) ?_;rintro v ⟨H1,T1⟩ ⟨hk,hr⟩;rcases hr with⟨_,rfl⟩|⟨b,hne,_⟩
 case inr=>exact absurd hR.1 hne
 simp;refine qFu (fun m ev U=>ev 6=.sl 4 [] .tight/\ev 21=.int .i64 0/\ev 22=.int .i64 0/\KpL [] H U.H) 0 ⟨by simp,by simp,by simp,qFX.trans hk⟩ ?_;rintro m ev ⟨H2,T2⟩ R hRR ⟨e6,e21,e22,hk2⟩;simp[e6,e21,e22];refine qFu (fun m ev U=>ev 6=.sl 4 [] .tight/\ev 36=.int .i64 0/\ev 37=.int .i64 0/\KpL [] H U.H) 0 ⟨by simp[e6],by simp,by simp,hk2⟩ ?_;rintro m ev ⟨H3,T3⟩ R hRR ⟨e6,e36,e37,hk3⟩;simp[e6,e36,e37];exact⟨.tight,rfl,.inr rfl,hk3⟩
def yq(vs:List Var):List Int:=vs.map (·.value)
def qwd(vs:List Var)(H:List Blk)(r:AV)(U':St):Prop:=KpL [] H U'.H/\∃A t,r=Jg A t (yq vs)/\(vs≠[]->U'.H[A]?=some (.cells (zb (yq vs)))/\H.length<=A)
def qjJ(p)(hl:p.vars.length<=1000)(H T):qj prog GG 218 [.agg (qA p)] ⟨H,T⟩ (qwd p.vars H):=by
 refine qFo qg func218 rfl (by kernel_rfl) ?_;by_cases hv0:p.vars=[]
 . have hq:∀u T',qwd p.vars H (.sl 1 [] (.chain T.length 0)) ⟨H++u,T'⟩:=fun u T'=>⟨qFX,H.length,T.length,by rw[hv0];rfl,fun h=>absurd hv0 h⟩
   rw[hv0]at hq;simp[hv0,qG];refine qFu (fun m ev U=>ev 3=.sl 1 [] (.chain T.length 0)/\ev 4=.int .i64 0/\∃u T',U=⟨H++u,T'⟩) 0 ⟨by simp,by simp,_,_,rfl⟩ ?_;rintro m ev U R hR ⟨e3,e4,u,T',rfl⟩;simp[e3,e4];exact hq u T'
 have hpos:=qBf.2 hv0;simp[hv0,show(p.vars.length:Int)<=549755813888 by omega,qG];refine qFF p.vars (fun d ev U=>ev 1=.ptr H.length 0/\ev 3=.ms (H.length+1) 0 p.vars.length 1/\ev 4=.int .i64 d.length/\∃H3,U=⟨H3,T⟩/\KpL [] H H3/\H3[H.length]?=some (.cells (qA p))/\H3[H.length+1]?=some (.cells (zb (yq d++List.replicate (p.vars.length-d.length) 0)))) ?_ ?_ ?_
 . refine⟨by simp,by simp,by simp,_,rfl,qFX,by simp,?_⟩;simp[yq,zb]
 . rintro d v rest ev U R hR hd hxv hlt ⟨e1,e3,e4,H3,rfl,hk,hP,hA⟩;have hdw:=wr (n:=(d.length:Int)+1) (by omega) (by omega);have hrl:List.replicate (p.vars.length-d.length) (0:Int)=0::List.replicate (p.vars.length-(d.length+1)) 0:=by
    rw[show p.vars.length-d.length=(p.vars.length-(d.length+1))+1 by omega,qCV]
   rw[hrl]at hA;have hsl:(yq d).length=d.length:=(by simp[yq]);have hset:(zb (yq d++0::List.replicate (p.vars.length-(d.length+1)) 0)).set d.length (.int .i64 v.value)=zb (yq (d++[v])++List.replicate (p.vars.length-(d.length+1)) 0):=by
    rw[yL,qBK _ _ (by omega),hsl,qBS];simp[yq]
   have hAl:=(qAU.1 hA).1;simp only[qA]at hP;simp[-getElem?_pos,e1,e3,e4,hlt,hxv,hP,hA,show(zb (yq d++0::List.replicate (p.vars.length-(d.length+1)) 0)).length=p.vars.length by rw[qR];simp[hsl];omega,hset,show d.length+1<=p.vars.length by omega,hdw];refine hR _ _ ⟨by simp[e1],by simp[e3],by simp,_,rfl,hk.setF (by omega),?_,?_⟩
   . rw[qAX (by omega)];exact hP
   rw[qAY,qBo];exact qA0 hAl
 rintro ev U ⟨e1,e3,e4,H3,rfl,hk,hP,hA⟩;rw[qBS,qDO,qBC]at hA;simp[e3,e4];refine⟨hk,H.length+1,0,?_,fun _=>⟨hA,by omega⟩⟩;rw[Jg,if_neg (by simpa[yq] using hv0)];simp[yq]
