/- A part of the proof. -/
import Derived.Test.YtkpkjbchlabaaaaGreatDoorSa08
set_option maxHeartbeats 16000000
set_option linter.unusedVariables false
set_option linter.unusedSimpArgs false
set_option maxRecDepth 100000
set_option linter.defProp false
section
namespace Go.Proofs.YtkpkjbchlabaaaaGreatDoor
open Go Go.Abs
structure NodeR (B M t:Nat)(d:List Nd)(full:Bool)(U:St)(d':List Nd)(full':Bool)(i:Nat)(U':St):Prop where
 br:BR B M t d' full' U'
 kp:KpL [B,M] U.H U'.H
 gr:qW d d'
 ok:DagOk d'
 lt:i<d'.length
 mono:full=true->full'=true
 fl:full'=true->8192<=d'.length
def NodeQ (B M t:Nat)(d:List Nd)(full:Bool)(U:St)(lv lo hi:Nat)(r:AV)(U':St):Prop :=
 ∃ d' full' i,r=.int .i64 (i:Nat)/\NodeR B M t d full U d' full' i U'/\(full'=false->lv<=lvD d' i/\∀ b,evD d' b i=evD d' b (if b lv then hi else lo))
theorem qhF {B M t:Nat}{d:List Nd}{full:Bool}{U:St}(h:BR B M t d full U)(hd:DagOk d){lv lo hi:Nat}(hlv:lv<20)(hlo:lo<d.length)(hhi:hi<d.length)(hfl:full=true->8192<=d.length)(h1:full=false->lv<lvD d lo)(h2:full=false->lv<lvD d hi) :
 qf Tryz.prog GG 284 [.ptr B 0,.int .i64 lv,.int .i64 lo,.int .i64 hi] U (NodeQ B M t d full U lv lo hi):=by
 refine qf.k qe Tryz.func284 rfl (by kernel_rfl) ?_;obtain⟨H,T⟩:=U;have hB:=h.b;have hM:=h.m;have hT:=h.t;have hne:=h.ne;simp only at hB hM hT;change H[M]?=some (.map ((atE d).map ndE) d.length) at hM;by_cases hlh:lo=hi
 . subst hlh;simp[-getElem?_pos];exact⟨d,full,lo,rfl,⟨h,KpL.refl,qW.refl d,hd,hlo,id,hfl⟩,fun hf=>⟨by have:=h1 hf;omega,by simp⟩⟩
 . have hlh':¬ (lo:Int)=hi:=(by omega);have hfit:=qit (lv,lo,hi);have hBl:=(qqc.1 hB).1;have hMl:=(qqc.1 hM).1;by_cases hin:(lv,lo,hi)∈d
   . obtain⟨i,hi1⟩:=qqN hin;obtain⟨j,hf1,hf2⟩:=Ve (n:=(lv,lo,hi)) (atE d) 0 (by rw[qjh];exact hd.nodup) _ (qpS hi1) rfl;have hlk:∀ (u:List Blk) (T:List (Option Nat)),zm (Dof Tryz.prog) ⟨H++u,T⟩ 305 (.map M) (.agg (qw (lv,lo,hi))) true=some (.tup [.int .i64 i,.bool true]):=by
      intro u T;simp only[zm,D305,hfit,if_true];simp[-qw,qa hM,hf1]
     simp only[qw]at hlk;simp[-getElem?_pos,hlh',qa hB,hlk];refine⟨d,full,i,rfl,⟨⟨qa hB _,qa hM _,hT⟩,KpL.app,qW.refl d,hd,(qqc.1 hi1).1,id,hfl⟩,fun _=>⟨by rw[zJ hi1];exact qqn _,fun b=>?_⟩⟩;refine vZ hd b (n:=(lv,lo,hi)) ?_ hi1;apply Classical.byContradiction;intro hc;have:i=0\/i=1:=by omega
     rcases this with rfl|rfl
     . have e:=hd.n0;rw[hi1]at e;simp at e;omega
     . have e:=hd.n1;rw[hi1]at e;simp at e;omega
   . have hfind:=Zr (n:=(lv,lo,hi)) (atE d) 0 (qjg hin);have hlk:∀ (u:List Blk) (T:List (Option Nat)),zm (Dof Tryz.prog) ⟨H++u,T⟩ 305 (.map M) (.agg (qw (lv,lo,hi))) true=some (.tup [.int .i64 0,.bool false]):=by
      intro u T;simp only[zm,D305,hfit,if_true];simp[-qw,qa hM,hfind,WF]
     simp only[qw]at hlk;by_cases hm:8192<=d.length
     . have hm':(8192:Int)<=d.length:=(by omega);simp[-getElem?_pos,hlh',qa hB,hlk,hm',yQ hB];refine⟨d,true,0,rfl,⟨⟨?_,?_,hT⟩,?_,qW.refl d,hd,by have:=hd.two;omega,fun _=>rfl,fun _=>hm⟩,fun e=>by cases e⟩
       . exact qa (by rw[qqh hBl]) _
       . exact qa (by rw[qqf hne];exact hM) _
       . exact (KpL.set (by simp)).trans KpL.app
     . have hm':¬ (8192:Int)<=d.length:=(by omega);have hup:∀ (u:List Blk) (T:List (Option Nat)),qZ (Dof Tryz.prog) ⟨H++u,T⟩ 305 (.map M) (.agg (qw (lv,lo,hi))) (.int .i64 d.length)=some ⟨H.set M (.map ((atE (d++[(lv,lo,hi)])).map ndE) (d++[(lv,lo,hi)]).length)++u,T⟩:=by
        intro u T;simp only[qZ,D305,hfit,if_true];simp[-qw,qa hM,hfind,yQ hM,qeP,ndE]
       have happ:∀ (H':List Blk),qO (Dof Tryz.prog) ⟨H',T⟩ 65 (.sl 3 (d.map qw) (.chain t d.length)) (.sl 3 [qw (lv,lo,hi)] .tight)=some (.sl 3 ((d++[(lv,lo,hi)]).map qw) (.chain t (d++[(lv,lo,hi)]).length),⟨H',T.set t (some (d++[(lv,lo,hi)]).length)⟩):=by
        intro H';have:d.length+1<=549755813888:=by omega
        simp[-qw,qO,zL,hT,this]
       simp only[qw]at hup happ;have hB2:∀ y:Blk,(H.set M y)[B]?=some (.cells [.sl 3 (d.map qw) (.chain t d.length),.map M,.bool full]):=fun y=>by
        rw[qqf (Ne.symm hne)];exact hB
       have hdl:(d++[(lv,lo,hi)]).length=d.length+1:=(by simp);have hg:qW d (d++[(lv,lo,hi)]):=⟨_,rfl⟩;have hff:full=false:=(by cases full with | true=>exact absurd (hfl rfl) hm | false=>rfl);have hnew:=qlZ hd (n:=(lv,lo,hi)) (by omega) hlv hlo hhi hlh (h1 hff) (h2 hff) hin;have hT2:(T.set t (some (d++[(lv,lo,hi)]).length))[t]?=some (some (d++[(lv,lo,hi)]).length):=qqh (qqc.1 hT).1;have hlast:(d++[(lv,lo,hi)])[d.length]?=some (lv,lo,hi):=(by simp);generalize hD:d++[(lv,lo,hi)]=D at *;generalize hY:Blk.map ((atE D).map ndE) D.length=Y at *;have hl2:=fun u=>qa (hB2 Y) u
       have hs2:=fun u z=>yQ (hB2 Y) u z
       have hl3:∀ (z:Blk) (u:List Blk),((H.set M Y).set B z++u)[B]?=some z:=fun z u=>qa (by rw[qqh (by rw[qry];exact hBl)]) u
       have hl4:∀ (x:Blk),(H.set M Y++[x])[H.length]?=some x:=fun x=>by rw[qql (by simp)];simp
       have hwr:IntKind.i64.wrap ((D.length:Int)-1)=(d.length:Nat):=(by rw[wr (by omega) (by omega)];omega);simp[-getElem?_pos,hlh',qa hB,hlk,hm',hup,hl2,hs2,happ,hl3,hl4,hwr];refine⟨D,full,d.length,rfl,⟨⟨hl3 _ _,?_,hT2⟩,?_,hg,hnew,by omega,id,fun e=>by rw[hff]at e;cases e⟩,fun _=>⟨by rw[zJ hlast];exact qqn _,fun b=>vZ hnew b (n:=(lv,lo,hi)) hd.two hlast⟩⟩
       . rw[hY.symm];refine qa ?_ _;rw[qqf hne,qqh hMl]
       . exact ((KpL.set (by simp)).trans (KpL.set (by simp))).trans KpL.app
def CloneQ (d:List Nd)(H:List Blk)(T:List (Option Nat))(r:AV)(U':St):Prop:=r=.sl 3 (d.map qw) (.chain T.length d.length)/\U'=⟨H,T++[some d.length]⟩
theorem ql7 (d:List Nd)(h0:d≠[])(hl:d.length<=100000)(H:List Blk)(T:List (Option Nat)):qf Tryz.prog GG 282 [.sl 3 (d.map qw) .none] ⟨H,T⟩ (CloneQ d H T):=by
 obtain⟨x,r,rfl⟩:=qsK h0;refine qf.k qe Tryz.func282 rfl (by kernel_rfl) ?_;have h1:r.length+1<=549755813888:=by simp at hl;omega
 simp[-qw,qO,zL,qk,qu,h1];exact⟨by simp,by simp⟩
def BeginQ (d:List Nd)(H:List Blk)(r:AV)(U':St):Prop:=∃ B M t,r=.ptr B 0/\BR B M t d false U'/\KpL [] H U'.H/\H.length<=B/\H.length<=M
theorem qeN (d:List Nd)(h:DagOk d)(H:List Blk)(T:List (Option Nat)):qf Tryz.prog GG 218 [.agg (zt d)] ⟨H,T⟩ (BeginQ d H):=by
 refine qf.k qe Tryz.func218 rfl (by kernel_rfl) ?_;have h2:=h.two;have hmost:=h.most;have h0:d≠[]:=fun e=>by rw[e]at h2;simp at h2
 simp[-getElem?_pos];refine qc.acall (ql7 d h0 (by omega) _ _) ?_;rintro v U' ⟨rfl,rfl⟩;simp[-getElem?_pos,zn,zS,qF];have hnn:d.length<=8192:=hmost;refine qX.listR d (fun s ev U=>ev 1=.ptr H.length 0/\ev 3=.ptr (H.length+1+1) 0/\ev 13=.sl 3 (d.map qw) .none/\ev 14=.int .i64 d.length/\ev 15=.int .i64 s.length /\
  ∃ t,U=⟨H++(.cells (zt d)::.map ((atE s).map ndE) s.length::.cells [.sl 3 (d.map qw) (.chain T.length d.length),.map (H.length+1),.bool false]::t),T++[some d.length]⟩) ?_ ?_ ?_
 . exact⟨by simp,by simp,by simp,by simp,by simp,[],by simp[atE]⟩
 . rintro s n rest ev U R hR hd hx hlt ⟨e1,e3,e13,e14,e15,t,rfl⟩;have hdw:IntKind.i64.wrap ((s.length:Int)+1)=(s.length+1:Nat):=(by rw[wr (by omega) (by omega)];omega);have hns:n∉s:=by
    have:=h.nodup;rw[hd]at this;intro hm;exact (qq9.1 this).2.2 n hm n (by simp) rfl
   have hfind:=Zr (n:=n) (atE s) 0 (qjg hns);have hfit:=qit n;generalize hCB:Blk.cells [.sl 3 (d.map qw) (.chain T.length d.length),.map (H.length+1),.bool false]=CB at *;generalize hCD:Blk.cells (zt d)=CD at *;have hgo:∀ (ev':Env) (u:List Blk),ev' 1=.ptr H.length 0->ev' 3=.ptr (H.length+1+1) 0->ev' 13=.sl 3 (d.map qw) .none->ev' 14=.int .i64 d.length->ev' 15=.int .i64 (s.length+1:Nat)->R ev' ⟨H++(CD::.map ((atE (s++[n])).map ndE) (s++[n]).length::CB::t)++u,T++[some d.length]⟩ :=
    fun ev' u a1 a2 a3 a4 a5=>hR _ _ ⟨a1,a2,a3,a4,by simpa using a5,t++u,by simp⟩
   obtain⟨W,hW⟩:∃ W,H++(CD::Blk.map ((atE s).map ndE) s.length::CB::t)=W:=⟨_,rfl⟩;obtain⟨W',hW'⟩:∃ W,H++(CD::Blk.map ((atE (s++[n])).map ndE) (s++[n]).length::CB::t)=W:=⟨_,rfl⟩;have hlb:W[H.length+1+1]?=some CB:=by
    rw[<- hW,qql (by omega)];simp[show H.length+1+1-H.length=2 by omega]
   have hlm:W[H.length+1]?=some (.map ((atE s).map ndE) s.length):=by
    rw[<- hW,qql (by omega)];simp
   have hset:W.set (H.length+1) (Blk.map ((atE (s++[n])).map ndE) (s++[n]).length)=W':=by
    rw[<- hW,<- hW',qrh _ _ (by omega)];simp
   have hup:∀ (u:List Blk) (T:List (Option Nat)),qZ (Dof Tryz.prog) ⟨W++u,T⟩ 305 (.map (H.length+1)) (.agg (qw n)) (.int .i64 s.length)=some ⟨W'++u,T⟩:=by
    intro u T;simp only[qZ,D305,hfit,if_true];simp only[qa hlm,hfind,yQ hlm,<- hset];simp[-qw,qeP,ndE]
   simp only[qw]at hup;rw[hW']at hgo;rw[hW];subst hCB;simp[-getElem?_pos,e1,e3,e13,e14,e15,hlt,hx,qa hlb,hup,hdw];exact hgo _ _ (by simp[e1]) (by simp[e3]) (by simp[e13]) (by simp[e14]) (by simp)
 . rintro ev U ⟨e1,e3,e13,e14,e15,t,rfl⟩;simp[-getElem?_pos,e3,e14,e15];refine⟨H.length+1+1,H.length+1,T.length,rfl,⟨?_,?_,?_⟩,KpL.app,by omega,by omega⟩
   . show (H++_)[_]?=_;rw[qql (by omega)];simp[show H.length+1+1-H.length=2 by omega]
   . show (H++_)[_]?=_;rw[qql (by omega)];simp
   . simp
def DoneQ (t:Nat)(d:List Nd)(full:Bool)(f:Nat)(U:St)(r:AV)(U':St):Prop :=
 (r=if full=true then .tup [.agg [.sl 0 [] .nil],.int .i64 0,.int .i64 2] else .tup [.agg [.sl 3 (d.map qw) (.chain t d.length)],.int .i64 f,.int .i64 0])/\KpL [] U.H U'.H/\U'.T=U.T
theorem qiJ {B M t:Nat}{d:List Nd}{full:Bool}{U:St}(h:BR B M t d full U)(f:Nat):qf Tryz.prog GG 219 [.ptr B 0,.int .i64 f] U (DoneQ t d full f U):=by
 refine qf.k qe Tryz.func219 rfl (by kernel_rfl) ?_;obtain⟨H,T⟩:=U;have hB:=h.b;simp only at hB;cases full
 . simp[-getElem?_pos,qa hB,zn,zS,qF];exact⟨rfl,KpL.app,rfl⟩
 . simp[-getElem?_pos,qa hB,zn,zS,qF];exact⟨rfl,KpL.app,rfl⟩
theorem and289 (p q r:Bool):Pure Tryz.prog GG 163 [.bool p,.bool q,.bool r] (.bool (p&&q)):=by
 refine Pure.k qe Tryz.func163 rfl (by kernel_rfl) ?_;cases p<;>cases q<;>simp
theorem or454 (p q r:Bool):Pure Tryz.prog GG 316 [.bool p,.bool q,.bool r] (.bool (p||q)):=by
 refine Pure.k qe Tryz.func316 rfl (by kernel_rfl) ?_;cases p<;>cases q<;>simp
theorem not456 (p q r:Bool):Pure Tryz.prog GG 318 [.bool p,.bool q,.bool r] (.bool (!p)):=by
 refine Pure.k qe Tryz.func318 rfl (by kernel_rfl) ?_;cases p<;>simp[unA]
theorem xor468 (p q r:Bool):Pure Tryz.prog GG 332 [.bool p,.bool q,.bool r] (.bool (p ^^ q)):=by
 refine Pure.k qe Tryz.func332 rfl (by kernel_rfl) ?_;cases p<;>cases q<;>simp[qU]
theorem qi1 (p q r:Bool):Pure Tryz.prog GG 319 [.bool p,.bool q,.bool r] (.bool (p&&q||!p&&r)):=by
 refine Pure.k qe Tryz.func319 rfl (by kernel_rfl) ?_;cases p<;>cases q<;>cases r<;>simp[unA]
theorem qfX (H:List Blk)(n:Nat)(d:List Nd):(d.map qw).map (·.map (frz H n))=d.map qw:=by
 rw[qrz];apply qrk;intro x _;simp[ZA]
theorem qcR {H:List Blk}{B M t n:Nat}{d:List Nd}{full:Bool}(h:H[B]?=some (.cells [.sl 3 (d.map qw) (.chain t n),.map M,.bool full])):frz H 8 (.ptr B 0)=frzB d full:=by
 have e1:frz H 7 (.map M)=.any:=by simp[frz,qR]
 have e2:frz H 7 (.sl 3 (d.map qw) (.chain t n))=.sl 3 (d.map qw) .none:=by
  rw[frz];simp only[qR,qfX];simp
 rw[qik h];simp only[qrx,qqp,qqU,e1,e2,qex];rfl
def qgL (val:Bool->Bool->Bool->Bool)(d:List Nd)(x:Nd)(b:Nat->Bool):Bool:=val (evD d b x.1) (evD d b x.2.1) (evD d b x.2.2)
def mlv (d:List Nd)(x:Nd):Nat:=min (min (lvD d x.1) (lvD d x.2.1)) (lvD d x.2.2)
structure InD (d:List Nd)(x:Nd):Prop where
 a:x.1<d.length
 b:x.2.1<d.length
 c:x.2.2<d.length
theorem InD.grown {d d':List Nd}{x:Nd}(h:InD d x)(g:qW d d'):InD d' x:=⟨qqr h.a g.len,qqr h.b g.len,qqr h.c g.len⟩
theorem KK {val:Bool->Bool->Bool->Bool}{d d':List Nd}{x:Nd}(hd:DagOk d)(h:InD d x)(g:qW d d')(b:Nat->Bool):qgL val d' x b=qgL val d x b:=by
 unfold qgL;rw[g.ev hd b h.a,g.ev hd b h.b,g.ev hd b h.c]
theorem qa1 {d d':List Nd}{x:Nd}(h:InD d x)(g:qW d d'):mlv d' x=mlv d x:=by
 unfold mlv;rw[g.lv h.a,g.lv h.b,g.lv h.c]
structure KOk (val:Bool->Bool->Bool->Bool)(d:List Nd)(full:Bool)(E:List (Nd×AV×Nat)):Prop where
 keys:(E.map (·.1)).Nodup
 ent:∀ q∈E,InD d q.1/\∃ i:Nat,q.2.1=.int .i64 i/\i<d.length/\(full=false->mlv d q.1<=lvD d i/\∀ b,evD d b i=qgL val d q.1 b)
theorem KOk.grown {val:Bool->Bool->Bool->Bool}{d d':List Nd}{full full':Bool}{E:List (Nd×AV×Nat)}(h:KOk val d full E)(hd:DagOk d)(g:qW d d')(hm:full=true->full'=true):KOk val d' full' E :=
 ⟨h.keys,fun q hq=>by
  obtain⟨h1,i,h2,h3,h4⟩:=h.ent q hq;refine⟨h1.grown g,i,h2,qqr h3 g.len,fun hf=>?_⟩;have hff:full=false:=by cases full with | true=>rw[hm rfl]at hf;cases hf | false=>rfl
  obtain⟨h5,h6⟩:=h4 hff;exact⟨by rw[qa1 h1 g,g.lv h3];exact h5,fun b=>by rw[g.ev hd b h3,KK hd h1 g];exact h6 b⟩⟩
structure AR (O B M t Kb vf:Nat)(d:List Nd)(full:Bool)(E:List (Nd×AV×Nat))(U:St):Prop where
 br:BR B M t d full U
 o:U.H[O]?=some (.cells [.ptr B 0,.fn vf [] [],.map Kb])
 k:∃ clk,U.H[Kb]?=some (.map (E.map ndE) clk)
 oK:O≠Kb
 oB:O≠B
 oM:O≠M
 kB:Kb≠B
 kM:Kb≠M
def qeV (val:Bool->Bool->Bool->Bool)(O B M t Kb vf:Nat)(d:List Nd)(full:Bool)(x:Nd)(U:St)(r:AV)(U':St):Prop :=
 ∃ d' full' E' i,r=.int .i64 (i:Nat)/\AR O B M t Kb vf d' full' E' U'/\KOk val d' full' E'/\KpL [B,M,Kb] U.H U'.H/\qW d d'/\DagOk d'/\i<d'.length/\(full=true->full'=true)/\(full'=true->8192<=d'.length) /\
  (full'=false->mlv d x<=lvD d' i/\∀ b,evD d' b i=qgL val d x b)
theorem qbu (n:Nd):zw (Dof Tryz.prog) 215 (.agg (qw n))=true:=by
 simp[zw,YX,yM,qU,zR,qrG]
def qkw:List (Nat×Sch×List Nat):=[(11,.step 0 [27,26] (.step 1 [27,26,25,24,16,8,4,3,2] (.step 2 [27,26,25,24,16,8,4,3] (.step 3 [27,26,25,24,16,8,4] (.step 4 [27,26,25,24,16,8] (.step 5 [27,26,25,24,16,8,6] (.step 6 [27,26,25,24,16,8] (.step 7 [27,26,25,24,16,8] (.step 8 [27,26,25,24,16] (.step 9 [27,26,25,24,16,12,11,10] (.step 10 [27,26,25,24,16,12,11] (.step 11 [27,26,25,24,16,12] (.step 12 [27,26,25,24,16] (.step 13 [27,26,25,24,16,14] (.step 14 [27,26,25,24,16] (.step 15 [27,26,25,24,16] (.step 16 [27,26,25,24] (.step 17 [27,26,25,24,20,19,18] (.step 18 [27,26,25,24,20,19] (.step 19 [27,26,25,24,20] (.step 20 [27,26,25,24] (.step 21 [27,26,25,24,22] (.step 22 [27,26,25,24] (.step 23 [27,26,25,24] (.step 24 [27,26,25] (.step 25 [27,26] (.step 26 [27] (.step 27 [] (.done)))))))))))))))))))))))))))),[26]),(12,.step 0 [27,26] (.step 1 [27,26,25,24,16,8,4,3,2] (.step 2 [27,26,25,24,16,8,4,3] (.step 3 [27,26,25,24,16,8,4] (.step 4 [27,26,25,24,16,8] (.step 5 [27,26,25,24,16,8,6] (.step 6 [27,26,25,24,16,8] (.step 7 [27,26,25,24,16,8] (.step 8 [27,26,25,24,16] (.step 9 [27,26,25,24,16,12,11,10] (.step 10 [27,26,25,24,16,12,11] (.step 11 [27,26,25,24,16,12] (.step 12 [27,26,25,24,16] (.step 13 [27,26,25,24,16,14] (.step 14 [27,26,25,24,16] (.step 15 [27,26,25,24,16] (.step 16 [27,26,25,24] (.step 17 [27,26,25,24,20,19,18] (.step 18 [27,26,25,24,20,19] (.step 19 [27,26,25,24,20] (.step 20 [27,26,25,24] (.step 21 [27,26,25,24,22] (.step 22 [27,26,25,24] (.step 23 [27,26,25,24] (.step 24 [27,26,25] (.step 25 [27,26] (.step 26 [27] (.step 27 [] (.done)))))))))))))))))))))))))))),[26]),(14,.step 0 [6,3,2,1] (.step 1 [6,3,2] (.step 2 [6,3] (.step 3 [6] (.step 4 [6] (.step 5 [6] (.step 6 [] (.done))))))),[])]
theorem qee {d:List Nd}(h:DagOk d)(x:Nd):mlv d x<=20:=by
 have:=qef h x.1;unfold mlv;omega
theorem qfJ (k:Nd)(v:AV)(E:List (Nd×AV×Nat))(j:Nat):(E.map ndE).modify j (fun e=>(.agg (qw k),v,e.2.2))=(E.modify j (fun e=>(k,v,e.2.2))).map ndE:=by
 apply qq3;intro i;rw[qrU,qqB,qqB,qrU]
 cases E[i]? with
 | none=>rfl
 | some q=>by_cases h:j=i<;>simp[h,ndE]
theorem upd_nd {Kb:Nat}{E:List (Nd×AV×Nat)}{clk:Nat}(k:Nd)(v:AV)(hn:(E.map (·.1)).Nodup) :
 ∃ (E':List (Nd×AV×Nat)) (clk':Nat),(∀ (H:List Blk) (T:List (Option Nat)),H[Kb]?=some (.map (E.map ndE) clk)->qZ (Dof Tryz.prog) ⟨H,T⟩ 258 (.map Kb) (.agg (qw k)) v=some ⟨H.set Kb (.map (E'.map ndE) clk'),T⟩)/\(E'.map (·.1)).Nodup/\∀ q∈E',q∈E\/(q.1=k/\q.2.1=v):=by
 have hfit:=qbu k;by_cases hin:k∈E.map (·.1)
 . obtain⟨q,hq,hqe⟩:=qqG.1 hin;obtain⟨j,hf1,hf2⟩:=Ve (n:=k) E 0 hn q hq hqe;simp only[qrL]at hf1;refine⟨E.modify j (fun e=>(k,v,e.2.2)),clk,?_,?_,?_⟩
   . intro H T hK;simp only[qZ,D258,hfit,if_true,hK,hf1,qfJ]
   . have:(E.modify j (fun e=>(k,v,e.2.2))).map (·.1)=E.map (·.1):=by
      apply qq3;intro i;rw[qqB,qqB,qrU];by_cases h:j=i
      . subst h;rw[hf2];simp[hqe]
      . simp[h]
     rw[this];exact hn
   . intro q' hq';obtain⟨i,hi⟩:=qqN hq';rw[qrU]at hi
     cases hE:E[i]? with
     | none=>rw[hE]at hi;cases hi
     | some r=>
      rw[hE]at hi;by_cases h:j=i
      . simp[h]at hi;subst hi;exact .inr ⟨rfl,rfl⟩
      . simp[h]at hi;subst hi;exact .inl (qqd hE)
 . have hfind:=Zr (n:=k) E 0 fun q hq hqe=>hin (qqG.2 ⟨q,hq,hqe⟩)
   refine⟨E++[(k,v,clk)],clk+1,?_,?_,?_⟩
   . intro H T hK;simp only[qZ,D258,hfit,if_true,hK,hfind];simp[-qw,ndE]
   . rw[qrb,qq9];refine⟨hn,by simp,?_⟩;intro a ha b hb;simp at hb;subst hb;rintro rfl;exact hin ha
   . intro q hq;rcases qqA.1 hq with h|h
     . exact .inl h
     . simp at h;subst h;exact .inr ⟨rfl,rfl⟩
theorem qgi {val:Bool->Bool->Bool->Bool}{O B M t Kb vf:Nat}(hv:∀ p q r,Pure Tryz.prog GG vf [.bool p,.bool q,.bool r] (.bool (val p q r)))(L:Nat)
 (ih:∀ (d:List Nd) (full:Bool) (E:List (Nd×AV×Nat)) (x:Nd) (U:St),AR O B M t Kb vf d full E U->KOk val d full E->DagOk d->InD d x->(full=true->8192<=d.length)->L<mlv d x->qf Tryz.prog GG 220 [.ptr O 0,.agg (qw x)] U (qeV val O B M t Kb vf d full x U))
 (d:List Nd) (full:Bool) (E:List (Nd×AV×Nat)) (x:Nd) (U:St) (ha:AR O B M t Kb vf d full E U) (hk:KOk val d full E) (hd:DagOk d) (hx:InD d x) (hfl:full=true->8192<=d.length) (hL:mlv d x=L) :
 qf Tryz.prog GG 220 [.ptr O 0,.agg (qw x)] U (qeV val O B M t Kb vf d full x U):=by
 refine qf.kO ⟨false,qkw,[],[]⟩ qe Tryz.func220 rfl (by kernel_rfl) ?_;obtain⟨H,T⟩:=U;have hB:=ha.br.b;have hO:=ha.o;obtain⟨clk,hK⟩:=ha.k;simp only at hB hO hK;have hwr:InD d x:=hx;have hle:=qee hd x;rw[hL]at hle;obtain⟨f,g,e⟩:=x;obtain⟨hfa,hga,hea⟩:=hx;simp only at hfa hga hea;obtain⟨nf,hnf⟩:∃ n,d[f]?=some n:=⟨_,qqe hfa⟩;obtain⟨ng,hng⟩:∃ n,d[g]?=some n:=⟨_,qqe hga⟩;obtain⟨ne,hne⟩:∃ n,d[e]?=some n:=⟨_,qqe hea⟩;have hml:L<=lvD d f/\L<=lvD d g/\L<=lvD d e:=by rw[<- hL];unfold mlv;simp only;omega
 have hmin:qhP (.int .i64 nf.1) (.int .i64 ng.1) (.int .i64 ne.1)=some (.int .i64 L):=by
  rw[<- hL];simp only[qhP,mlv,zJ hnf,zJ hng,zJ hne];congr 2;omega
 cases full
 . simp[-getElem?_pos,qa hO,qa hB];rw[Zv rfl];simp[-getElem?_pos,qa hO,qa hB,hnf,hng,hne,hmin];by_cases h20:L=20
   . subst h20;have two:∀ j,j<d.length->20<=lvD d j->∀ b,evD d b j=((j:Int)==1):=fun j hj hl b=>by
      have h2:=qm5 hd hj (by have:=qef hd j;omega);rw[ZF hd b (by omega)];rcases h2 with rfl|rfl<;>rfl
     simp[-getElem?_pos];rw[Zv rfl];simp[-getElem?_pos,qa hO];refine qc.call (hv _ _ _) (by simp) ?_;have hval:∀ b,qgL val d (f,g,e) b=val ((f:Int)==1) ((g:Int)==1) ((e:Int)==1):=fun b=>by
      unfold qgL;rw[two f hfa hml.1,two g hga hml.2.1,two e hea hml.2.2]
     have hAR:∀ u,AR O B M t Kb vf d false E ⟨H++u,T⟩:=fun u=>⟨⟨qa hB _,qa ha.br.m _,ha.br.t⟩,qa hO _,⟨clk,qa hK _⟩,ha.oK,ha.oB,ha.oM,ha.kB,ha.kM⟩
     simp[-getElem?_pos];have ht:=hd.two;refine⟨fun hh=>⟨d,false,E,1,rfl,hAR _,hk,KpL.app,qW.refl d,hd,by omega,id,hfl,fun _=>⟨by rw[qfL hd];exact qee hd _,fun b=>by rw[qc0 hd,hval,hh]⟩⟩,
      fun hh=>⟨d,false,E,0,rfl,hAR _,hk,KpL.app,qW.refl d,hd,by omega,id,hfl,fun _=>⟨by rw[qfM hd];exact qee hd _,fun b=>by rw[Ju hd,hval,hh]⟩⟩⟩
   . have h20':¬ (L:Int)=20:=(by omega);have hAR:∀ u,AR O B M t Kb vf d false E ⟨H++u,T⟩:=fun u=>⟨⟨qa hB _,qa ha.br.m _,ha.br.t⟩,qa hO _,⟨clk,qa hK _⟩,ha.oK,ha.oB,ha.oM,ha.kB,ha.kM⟩
     have hfit:=qbu (f,g,e);simp[-getElem?_pos,h20'];rw[Zv rfl];by_cases hin:(f,g,e)∈E.map (·.1)
     . obtain⟨q,hq,hqe⟩:=qqG.1 hin;obtain⟨j,hf1,hf2⟩:=Ve (n:=(f,g,e)) E 0 hk.keys q hq hqe;obtain⟨_,i,hi1,hi2,hi3⟩:=hk.ent q hq;have hlk:∀ (u:List Blk) (T:List (Option Nat)),zm (Dof Tryz.prog) ⟨H++u,T⟩ 258 (.map Kb) (.agg (qw (f,g,e))) true=some (.tup [.int .i64 i,.bool true]):=by
        intro u T;simp only[zm,D258,hfit,if_true];simp[-qw,qa hK,hf1,hi1]
       simp only[qw]at hlk;simp[-getElem?_pos,qa hO,hlk];rw[hqe]at hi3;exact⟨d,false,E,i,rfl,hAR _,hk,KpL.app,qW.refl d,hd,hi2,id,hfl,hi3⟩
     . have hfind:=Zr (n:=(f,g,e)) E 0 fun q hq hqe=>hin (qqG.2 ⟨q,hq,hqe⟩)
       have hlk:∀ (u:List Blk) (T:List (Option Nat)),zm (Dof Tryz.prog) ⟨H++u,T⟩ 258 (.map Kb) (.agg (qw (f,g,e))) true=some (.tup [.int .i64 0,.bool false]):=by
        intro u T;simp only[zm,D258,hfit,if_true];simp[-qw,qa hK,hfind,WF]
       simp only[qw]at hlk;simp[-getElem?_pos,qa hO,hlk];rw[qG rfl];simp[-getElem?_pos,qa hO,qN];have hz:∀ (H':List Blk) (d':List Nd) (full' one:Bool) (n:Nat),H'[B]?=some (.cells [.sl 3 (d'.map qw) (.chain t d'.length),.map M,.bool full']) ->
        zu ([.ptr B 0,.int .i64 n,.int .i64 L,.bool one].map (frz H' 8)) [frzB d' full',.int .i64 n,.int .i64 L,.bool one]:=fun H' d' full' one n hb=>by
        simp only[qqp,qqU,qcR hb,ZA,qex];exact zu.refl _
       have hL20:L<20:=(by omega);obtain⟨p1,p2,p3⟩:=yC hd hfa hL20 hml.1 false;obtain⟨q1,q2,q3⟩:=yC hd hga hL20 hml.2.1 false;obtain⟨r1,r2,r3⟩:=yC hd hea hL20 hml.2.2 false;refine qc.lent (Zx d false false f L hfa) rfl (hz _ d false false f (qa hB _)) ?_;simp[-getElem?_pos,qa hO,qN];refine qc.lent (Zx d false false g L hga) rfl (hz _ d false false g (qa hB _)) ?_;simp[-getElem?_pos,qa hO,qN];refine qc.lent (Zx d false false e L hea) rfl (hz _ d false false e (qa hB _)) ?_;simp[-getElem?_pos,qN,zn,zS,qF];have hlo:=ih d false E (jR d f L false,jR d g L false,jR d e L false) ⟨H++[.cells (qw (f,g,e))],T⟩ (hAR _) hk hd ⟨p1,q1,r1⟩ hfl (by unfold mlv;simp only;omega);simp only[qw]at hlo;refine qc.acall hlo ?_;rintro v ⟨H1,T1⟩ ⟨d1,full1,E1,i1,rfl,ha1,hk1,kp1,g1,hd1,hi1,hm1,hfl1,hs1⟩;have hB1:=ha1.br.b;have hO1:=ha1.o;simp only at hB1 hO1;have hBl:=(qqc.1 hB).1;have hMl:=(qqc.1 ha.br.m).1;have hKl:=(qqc.1 hK).1;simp only at hMl;have hX1:H1[H.length]?=some (.cells [.int .i64 f,.int .i64 g,.int .i64 e]):=kp1.2 _ _ (by simp) (by simp;omega);simp[-getElem?_pos,qN];rw[qG rfl];simp[-getElem?_pos,hO1,hX1,qN];obtain⟨u1,u2,u3⟩:=yC hd1 (qqr hfa g1.len) hL20 (by rw[g1.lv hfa];exact hml.1) true;obtain⟨v1,v2,v3⟩:=yC hd1 (qqr hga g1.len) hL20 (by rw[g1.lv hga];exact hml.2.1) true;obtain⟨w1,w2,w3⟩:=yC hd1 (qqr hea g1.len) hL20 (by rw[g1.lv hea];exact hml.2.2) true;refine qc.lent (Zx d1 full1 true f L (qqr hfa g1.len)) rfl (hz _ d1 full1 true f hB1) ?_;simp[-getElem?_pos,hO1,hX1,qN];refine qc.lent (Zx d1 full1 true g L (qqr hga g1.len)) rfl (hz _ d1 full1 true g hB1) ?_;simp[-getElem?_pos,hO1,hX1,qN];refine qc.lent (Zx d1 full1 true e L (qqr hea g1.len)) rfl (hz _ d1 full1 true e hB1) ?_;simp[-getElem?_pos,qN,zn,zS,qF];have hhi:=ih d1 full1 E1 (jR d1 f L true,jR d1 g L true,jR d1 e L true) ⟨H1,T1⟩ ha1 hk1 hd1 ⟨u1,v1,w1⟩ hfl1 (by unfold mlv;simp only;omega);simp only[qw]at hhi;refine qc.acall hhi ?_;rintro v ⟨H2,T2⟩ ⟨d2,full2,E2,i2,rfl,ha2,hk2,kp2,g2,hd2,hi2,hm2,hfl2,hs2⟩;have hB2:=ha2.br.b;have hO2:=ha2.o;simp only at hB2 hO2;have hBl1:=(qqc.1 hB1).1;have hX2:H2[H.length]?=some (.cells [.int .i64 f,.int .i64 g,.int .i64 e]):=kp2.2 _ _ hX1 (by simp;omega);have hff:full2=false->full1=false:=fun h=>by cases full1 with | true=>rw[hm2 rfl]at h;cases h | false=>rfl
       simp[-getElem?_pos,hO2,qN];have g12:=g1.len;have hnode:=qhF (lv:=L) (lo:=i1) (hi:=i2) ha2.br hd2 hL20 (qqr hi1 g2.len) hi2 hfl2
        (fun h=>by
          rw[g2.lv hi1];refine qqr ?_ (hs1 (hff h)).1;unfold mlv;simp only;omega)
        (fun h=>by
          refine qqr ?_ (hs2 h).1;unfold mlv;simp only;omega)
       refine qc.acall hnode ?_;rintro v ⟨H3,T3⟩ ⟨d3,full3,i3,rfl,hn,hs3⟩;obtain⟨clk2,hK2⟩:=ha2.k;simp only at hK2;have hB3:=hn.br.b;simp only at hB3;have hO3:H3[O]?=some (.cells [.ptr B 0,.fn vf [] [],.map Kb]):=hn.kp.2 _ _ hO2 (by simp[ha.oB,ha.oM]);have hK3:H3[Kb]?=some (.map (E2.map ndE) clk2):=hn.kp.2 _ _ hK2 (by simp[ha.kB,ha.kM]);have hX3:H3[H.length]?=some (.cells [.int .i64 f,.int .i64 g,.int .i64 e]):=hn.kp.2 _ _ hX2 (by simp;omega);obtain⟨E3,clk3,hup,hE1,hE2⟩:=upd_nd (Kb:=Kb) (E:=E2) (clk:=clk2) (f,g,e) (.int .i64 (i3:Nat)) hk2.keys;have hup3:=hup H3 T3 hK3;simp only[qw]at hup3;have hKl3:=(qqc.1 hK3).1;have hff3:full3=false->full2=false:=fun h=>by cases full2 with | true=>rw[hn.mono rfl]at h;cases h | false=>rfl
       have gg:qW d d3:=(g1.trans g2).trans hn.gr;have hval:full3=false->L<=lvD d3 i3/\∀ b,evD d3 b i3=qgL val d (f,g,e) b:=fun h=>by
        obtain⟨s1,s2⟩:=hs3 h;obtain⟨_,t2⟩:=hs2 (hff3 h);obtain⟨_,t1⟩:=hs1 (hff (hff3 h));refine⟨s1,fun b=>?_⟩;rw[s2 b]
        cases hb:b L with
        | false=>
         simp only[qqy,if_false];rw[hn.gr.ev hd2 b (qqr hi1 g2.len),g2.ev hd1 b hi1,t1 b];unfold qgL;simp only;rw[<- p3 b hb,<- q3 b hb,<- r3 b hb]
        | true=>
         simp only[if_true];rw[hn.gr.ev hd2 b hi2,t2 b];unfold qgL;simp only;rw[<- u3 b hb,<- v3 b hb,<- w3 b hb,g1.ev hd b hfa,g1.ev hd b hga,g1.ev hd b hea]
       have hk3:KOk val d3 full3 E2:=hk2.grown hd2 hn.gr hn.mono;have hk4:KOk val d3 full3 E3:=⟨hE1,fun q hq=>by
        rcases hE2 q hq with h|⟨h1,h2⟩
        . exact hk3.ent q h
        . refine⟨by rw[h1];exact hwr.grown gg,i3,h2,hn.lt,fun hf=>?_⟩;rw[h1,qa1 hwr gg,hL];obtain⟨z1,z2⟩:=hval hf;exact⟨z1,fun b=>by rw[z2 b,KK hd hwr gg]⟩⟩
       simp[-getElem?_pos];rw[qG rfl];simp[-getElem?_pos,hO3,hX3,qN,hup3];refine⟨d3,full3,E3,i3,rfl,⟨⟨?_,?_,hn.br.t⟩,?_,⟨clk3,?_⟩,ha.oK,ha.oB,ha.oM,ha.kB,ha.kM⟩,hk4,?_,gg,hn.ok,hn.lt,?_,hn.fl,?_⟩
       . exact (qqf ha.kB).trans hB3
       . exact (qqf ha.kM).trans hn.br.m
       . exact (qqf (Ne.symm ha.oK)).trans hO3
       . exact qqh hKl3
       . refine KpL.trans (KpL.trans (KpL.trans (KpL.trans KpL.app kp1) kp2) (hn.kp.sub ?_)) (KpL.set (by simp));intro b hb;simp only[qqE,qrA,or_false]at hb ⊢;rcases hb with h|h
         . exact .inl h
         . exact .inr (.inl h)
       . intro h;cases h
       . intro h;rw[hL];exact hval h
 . simp[-getElem?_pos,qa hO,qa hB];refine⟨d,true,E,0,rfl,?_,hk,KpL.app,qW.refl d,hd,by have:=hd.two;omega,id,hfl,fun h=>by cases h⟩;exact⟨⟨qa hB _,qa ha.br.m _,ha.br.t⟩,qa hO _,⟨clk,qa hK _⟩,ha.oK,ha.oB,ha.oM,ha.kB,ha.kM⟩
theorem qjo {val:Bool->Bool->Bool->Bool}{O B M t Kb vf:Nat}(hv:∀ p q r,Pure Tryz.prog GG vf [.bool p,.bool q,.bool r] (.bool (val p q r))) :
 ∀ (n L:Nat),20-L<n->∀ (d:List Nd) (full:Bool) (E:List (Nd×AV×Nat)) (x:Nd) (U:St),AR O B M t Kb vf d full E U->KOk val d full E->DagOk d->InD d x->(full=true->8192<=d.length)->mlv d x=L ->
 qf Tryz.prog GG 220 [.ptr O 0,.agg (qw x)] U (qeV val O B M t Kb vf d full x U):=by
 intro n
 induction n with
 | zero=>intro L h;omega
 | succ n ih=>
  intro L hLn d full E x U ha hk hd hx hfl hL;refine qgi hv L ?_ d full E x U ha hk hd hx hfl hL;intro d' full' E' x' U' ha' hk' hd' hx' hfl' hL';have:=qee hd' x';exact ih (mlv d' x') (by omega) d' full' E' x' U' ha' hk' hd' hx' hfl' rfl
theorem qmo {val:Bool->Bool->Bool->Bool}{O B M t Kb vf:Nat}(hv:∀ p q r,Pure Tryz.prog GG vf [.bool p,.bool q,.bool r] (.bool (val p q r)))
 (d:List Nd) (full:Bool) (E:List (Nd×AV×Nat)) (x:Nd) (U:St) (ha:AR O B M t Kb vf d full E U) (hk:KOk val d full E) (hd:DagOk d) (hx:InD d x) (hfl:full=true->8192<=d.length) :
 qf Tryz.prog GG 220 [.ptr O 0,.agg (qw x)] U (qeV val O B M t Kb vf d full x U) :=
 qjo hv _ _ (Nat.lt_succ_self _) d full E x U ha hk hd hx hfl rfl
def qkG:List (Nat×Sch×List Nat):=[(4,.step 0 [13,12,11,10,9,8,7,3,2,1] (.step 1 [13,12,11,10,9,8,7,3,2] (.step 2 [13,12,11,10,9,8,7,3] (.step 4 [13,12,11,10,9,8,7,6] (.step 5 [13,12,11,10,9,8,7,6] (.fork (.cons 3 (.step 6 [13,12,11,10,9,8,7] (.step 7 [13,12,11,10,9,8] (.step 8 [13,12,11] (.step 9 [13,12,11] (.step 10 [13,12,11] (.step 11 [13,12] (.step 12 [13] (.step 13 [] (.done))))))))) (.cons 6 (.step 3 [13,12,11,10,9,8,7] (.step 7 [13,12,11,10,9,8] (.step 8 [13,12,11] (.step 9 [13,12,11] (.step 10 [13,12,11] (.step 11 [13,12] (.step 12 [13] (.step 13 [] (.done))))))))) (.nil)))))))),[6,7])]
def ExtQ (val:Bool->Bool->Bool->Bool)(d:List Nd)(x:Nd)(H:List Blk)(r:AV)(U':St):Prop :=
 KpL [] H U'.H/\(r=.tup [.agg [.sl 0 [] .nil],.int .i64 0,.int .i64 2] \/
  ∃ d' i t,r=.tup [.agg [.sl 3 (d'.map qw) (.chain t d'.length)],.int .i64 (i:Nat),.int .i64 0]/\qW d d'/\DagOk d'/\i<d'.length/\mlv d x<=lvD d' i/\∀ b,evD d' b i=qgL val d x b)
theorem vJ {val:Bool->Bool->Bool->Bool}{vf:Nat}(hv:∀ p q r,Pure Tryz.prog GG vf [.bool p,.bool q,.bool r] (.bool (val p q r)))
 (d:List Nd) (hd:DagOk d) (x:Nd) (hx:InD d x) (H:List Blk) (T:List (Option Nat)) :
 qf Tryz.prog GG 162 [.agg (zt d),.agg (qw x),.fn vf [] []] ⟨H,T⟩ (ExtQ val d x H):=by
 refine qf.kO ⟨false,qkG,[],[]⟩ qe Tryz.func162 rfl (by kernel_rfl) ?_;obtain⟨f,g,e⟩:=x;have hx':=hx;obtain⟨hf,hg,he⟩:=hx;simp only at hf hg he;simp[-getElem?_pos,qk,qu];refine qc.less (qne d hd [f,g,e] (by simp) (by simp;omega) .none) (by simp) (by simp only[zu];exact⟨Leq.refl _,Leq.sl (by simp),trivial⟩) ?_;simp[-getElem?_pos,unA];refine qc.acall (qeN d hd _ _) ?_;rintro v ⟨H1,T1⟩ ⟨B,M,t,rfl,hb,hk1,hB1,hM1⟩;have hX1:H1[H.length+1]?=some (.cells [.int .i64 f,.int .i64 g,.int .i64 e]):=hk1.2 _ _ (by rw[qql (by omega)];simp) (by simp);have hkH:KpL [] H H1:=KpL.app.trans hk1;simp[-getElem?_pos,zn,zS,qF];rw[qG rfl];have hBm:=hb.b;have hMm:=hb.m;simp only at hBm hMm;have hBl:=(qqc.1 hBm).1;have hMl:=(qqc.1 hMm).1;have hAR:AR (H1.length+1) B M t H1.length vf d false [] ⟨H1++[.map [] 0,.cells [.ptr B 0,.fn vf [] [],.map H1.length]],T1⟩ :=
  ⟨⟨qa hBm _,qa hMm _,hb.t⟩,by show (H1++_)[_]?=_;rw[qql (by omega)];simp,⟨0,by show (H1++_)[_]?=_;rw[qql (by omega)];simp⟩,by omega,by omega,by omega,by omega,by omega⟩
 have hap:=qmo hv d false [] (f,g,e) _ hAR ⟨by simp,by simp⟩ hd hx' (by simp);simp only[qw]at hap;have hOb:(H1++[Blk.map [] 0,Blk.cells [AV.ptr B 0,AV.fn vf [] [],AV.map H1.length]])[H1.length+1]?=some (.cells [.ptr B 0,.fn vf [] [],.map H1.length]):=hAR.o;simp[-getElem?_pos,qa hX1,qN,hOb];have hR1:H1[H.length+2]?=some (.cells [.sl 0 [] .nil]):=hk1.2 _ _ (by rw[qql (by omega)];simp[show H.length+2-H.length=2 by omega]) (by simp);have hRl:=(qqc.1 hR1).1;simp only[qqg,qqs,qq0]at hB1 hM1;refine⟨qc.acall hap ?_,qc.acall hap ?_⟩
 all_goals
  rintro v ⟨H2,T2⟩ ⟨d2,full2,E2,i2,rfl,ha2,hk2,kp2,g2,hd2,hi2,hm2,hfl2,hs2⟩;have hO2:=ha2.o;have hB2:=ha2.br.b;simp only at hO2 hB2;have hR2:H2[H.length+2]?=some (.cells [.sl 0 [] .nil]):=kp2.2 _ _ (qa hR1 _) (by simp;omega);have hkH2:KpL [] H H2:=⟨by have:=hkH.1;have:=kp2.1;simp at this;omega,fun k x hk _=>by
   have hkl:=(qqc.1 hk).1;exact kp2.2 _ _ (qa (hkH.2 k x hk (by simp)) _) (by simp;omega)⟩
  simp[-getElem?_pos,hO2,qN];refine qc.acall (qiJ ha2.br i2) ?_;rintro v ⟨H3,T3⟩ ⟨rfl,hk3,rfl⟩;have hR3:H3[H.length+2]?=some (.cells [.sl 0 [] .nil]):=hk3.2 _ _ hR2 (by simp);have hRl3:=(qqc.1 hR3).1;have hkH3:∀ y,KpL [] H (H3.set (H.length+2) y):=fun y=>(hkH2.trans hk3).setF (by omega)
  cases full2
  . simp[-getElem?_pos,hR3,hRl3,qN,qF];exact⟨hkH3 _,.inr ⟨d2,i2,t,rfl,g2,hd2,hi2,hs2 rfl⟩⟩
  . simp[-getElem?_pos,hR3,hRl3,qN,qF];exact⟨hkH3 _,.inl rfl⟩
theorem qnx (d:List Nd)(hd:DagOk d)(f g:Nat)(hf:f<d.length)(hg:g<d.length)(H:List Blk)(T:List (Option Nat)) :
 qf Tryz.prog GG 101 [.agg (zt d),.int .i64 f,.int .i64 g] ⟨H,T⟩ (ExtQ (fun p q r=>p&&q) d (f,g,g) H):=by
 refine qf.k qe Tryz.func101 rfl (by kernel_rfl) ?_;simp[-getElem?_pos,zn,zS,qF];have hex:=fun H T=>vJ (val:=fun p q r=>p&&q) and289 d hd (f,g,g) ⟨hf,hg,hg⟩ H T
 simp only[qw,zt]at hex;refine qc.acall (hex _ _) ?_;rintro v ⟨H2,T2⟩ ⟨hk,hr⟩;have hR:H2[H.length+1]?=some (.cells [.sl 0 [] .nil]):=hk.2 _ _ (by rw[qql (by omega)];simp) (by simp);have hRl:=(qqc.1 hR).1;have hkk:∀ y,KpL [] H (H2.set (H.length+1) y):=fun y=>(KpL.app.trans hk).setF (by omega)
 rcases hr with rfl|⟨d2,i2,t,rfl,g2,hd2,hi2,hs2⟩
 . simp[-getElem?_pos,hR,hRl,qN,qF];exact⟨hkk _,.inl rfl⟩
 . simp[-getElem?_pos,hR,hRl,qN,qF];exact⟨hkk _,.inr ⟨d2,i2,t,rfl,g2,hd2,hi2,hs2⟩⟩
theorem or416 (d:List Nd)(hd:DagOk d)(f g:Nat)(hf:f<d.length)(hg:g<d.length)(H:List Blk)(T:List (Option Nat)) :
 qf Tryz.prog GG 270 [.agg (zt d),.int .i64 f,.int .i64 g] ⟨H,T⟩ (ExtQ (fun p q r=>p||q) d (f,g,g) H):=by
 refine qf.k qe Tryz.func270 rfl (by kernel_rfl) ?_;simp[-getElem?_pos,zn,zS,qF];have hex:=fun H T=>vJ (val:=fun p q r=>p||q) or454 d hd (f,g,g) ⟨hf,hg,hg⟩ H T
 simp only[qw,zt]at hex;refine qc.acall (hex _ _) ?_;rintro v ⟨H2,T2⟩ ⟨hk,hr⟩;have hR:H2[H.length+1]?=some (.cells [.sl 0 [] .nil]):=hk.2 _ _ (by rw[qql (by omega)];simp) (by simp);have hRl:=(qqc.1 hR).1;have hkk:∀ y,KpL [] H (H2.set (H.length+1) y):=fun y=>(KpL.app.trans hk).setF (by omega)
 rcases hr with rfl|⟨d2,i2,t,rfl,g2,hd2,hi2,hs2⟩
 . simp[-getElem?_pos,hR,hRl,qN,qF];exact⟨hkk _,.inl rfl⟩
 . simp[-getElem?_pos,hR,hRl,qN,qF];exact⟨hkk _,.inr ⟨d2,i2,t,rfl,g2,hd2,hi2,hs2⟩⟩
theorem xor458 (d:List Nd)(hd:DagOk d)(f g:Nat)(hf:f<d.length)(hg:g<d.length)(H:List Blk)(T:List (Option Nat)) :
 qf Tryz.prog GG 320 [.agg (zt d),.int .i64 f,.int .i64 g] ⟨H,T⟩ (ExtQ (fun p q r=>p ^^ q) d (f,g,g) H):=by
 refine qf.k qe Tryz.func320 rfl (by kernel_rfl) ?_;simp[-getElem?_pos,zn,zS,qF];have hex:=fun H T=>vJ (val:=fun p q r=>p ^^ q) xor468 d hd (f,g,g) ⟨hf,hg,hg⟩ H T
 simp only[qw,zt]at hex;refine qc.acall (hex _ _) ?_;rintro v ⟨H2,T2⟩ ⟨hk,hr⟩;have hR:H2[H.length+1]?=some (.cells [.sl 0 [] .nil]):=hk.2 _ _ (by rw[qql (by omega)];simp) (by simp);have hRl:=(qqc.1 hR).1;have hkk:∀ y,KpL [] H (H2.set (H.length+1) y):=fun y=>(KpL.app.trans hk).setF (by omega)
 rcases hr with rfl|⟨d2,i2,t,rfl,g2,hd2,hi2,hs2⟩
 . simp[-getElem?_pos,hR,hRl,qN,qF];exact⟨hkk _,.inl rfl⟩
 . simp[-getElem?_pos,hR,hRl,qN,qF];exact⟨hkk _,.inr ⟨d2,i2,t,rfl,g2,hd2,hi2,hs2⟩⟩
theorem qi2 (d:List Nd)(hd:DagOk d)(f g e:Nat)(hf:f<d.length)(hg:g<d.length)(he:e<d.length)(H:List Blk)(T:List (Option Nat)) :
 qf Tryz.prog GG 276 [.agg (zt d),.int .i64 f,.int .i64 g,.int .i64 e] ⟨H,T⟩ (ExtQ (fun p q r=>p&&q||!p&&r) d (f,g,e) H):=by
 refine qf.k qe Tryz.func276 rfl (by kernel_rfl) ?_;simp[-getElem?_pos,zn,zS,qF];have hex:=fun H T=>vJ (val:=fun p q r=>p&&q||!p&&r) qi1 d hd (f,g,e) ⟨hf,hg,he⟩ H T
 simp only[qw,zt]at hex;refine qc.acall (hex _ _) ?_;rintro v ⟨H2,T2⟩ ⟨hk,hr⟩;have hR:H2[H.length+1]?=some (.cells [.sl 0 [] .nil]):=hk.2 _ _ (by rw[qql (by omega)];simp) (by simp);have hRl:=(qqc.1 hR).1;have hkk:∀ y,KpL [] H (H2.set (H.length+1) y):=fun y=>(KpL.app.trans hk).setF (by omega)
 rcases hr with rfl|⟨d2,i2,t,rfl,g2,hd2,hi2,hs2⟩
 . simp[-getElem?_pos,hR,hRl,qN,qF];exact⟨hkk _,.inl rfl⟩
 . simp[-getElem?_pos,hR,hRl,qN,qF];exact⟨hkk _,.inr ⟨d2,i2,t,rfl,g2,hd2,hi2,hs2⟩⟩
theorem not418 (d:List Nd)(hd:DagOk d)(f:Nat)(hf:f<d.length)(H:List Blk)(T:List (Option Nat)) :
 qf Tryz.prog GG 272 [.agg (zt d),.int .i64 f] ⟨H,T⟩ (ExtQ (fun p q r=>!p) d (f,f,f) H):=by
 refine qf.k qe Tryz.func272 rfl (by kernel_rfl) ?_;simp[-getElem?_pos,zn,zS,qF];have hex:=fun H T=>vJ (val:=fun p q r=>!p) not456 d hd (f,f,f) ⟨hf,hf,hf⟩ H T
 simp only[qw,zt]at hex;refine qc.acall (hex _ _) ?_;rintro v ⟨H2,T2⟩ ⟨hk,hr⟩;have hR:H2[H.length+1]?=some (.cells [.sl 0 [] .nil]):=hk.2 _ _ (by rw[qql (by omega)];simp) (by simp);have hRl:=(qqc.1 hR).1;have hkk:∀ y,KpL [] H (H2.set (H.length+1) y):=fun y=>(KpL.app.trans hk).setF (by omega)
 rcases hr with rfl|⟨d2,i2,t,rfl,g2,hd2,hi2,hs2⟩
 . simp[-getElem?_pos,hR,hRl,qN,qF];exact⟨hkk _,.inl rfl⟩
 . simp[-getElem?_pos,hR,hRl,qN,qF];exact⟨hkk _,.inr ⟨d2,i2,t,rfl,g2,hd2,hi2,hs2⟩⟩
def MakeQ (d:List Nd)(lv lo hi:Nat)(H:List Blk)(r:AV)(U':St):Prop :=
 KpL [] H U'.H/\(r=.tup [.agg [.sl 0 [] .nil],.int .i64 0,.int .i64 2] \/
  ∃ d' i t,r=.tup [.agg [.sl 3 (d'.map qw) (.chain t d'.length)],.int .i64 (i:Nat),.int .i64 0]/\qW d d'/\DagOk d'/\i<d'.length/\lv<=lvD d' i/\∀ b,evD d' b i=evD d b (if b lv then hi else lo))
theorem qoX (d:List Nd)(hd:DagOk d)(lv lo hi:Nat)(hlv:lv<20)(hlo:lo<d.length)(hhi:hi<d.length)(h1:lv<lvD d lo)(h2:lv<lvD d hi)(H:List Blk)(T:List (Option Nat)) :
 qf Tryz.prog GG 317 [.agg (zt d),.int .i64 lv,.int .i64 lo,.int .i64 hi] ⟨H,T⟩ (MakeQ d lv lo hi H):=by
 refine qf.k qe Tryz.func317 rfl (by kernel_rfl) ?_;obtain⟨a,hla⟩:∃ n,d[lo]?=some n:=⟨_,qqe hlo⟩;obtain⟨c,hlc⟩:∃ n,d[hi]?=some n:=⟨_,qqe hhi⟩;have hlt:¬ (min (a.1:Int) (c.1:Int)<=(lv:Int)):=by rw[zJ hla]at h1;rw[zJ hlc]at h2;omega
 have hlen:=hd.most;simp[-getElem?_pos,qk,qu];refine qc.less (qne d hd [lo,hi] (by simp) (by simp;omega) .none) (by simp) (by simp only[zu];exact⟨Leq.refl _,Leq.sl (by simp),trivial⟩) ?_;simp[-getElem?_pos,unA];have hl1:(lv:Int)<20:=by omega
 refine qc.call (qfT (lv:Int)) (by simp) ?_;have hmin:w7 (.int .i64 (a.1:Int)) (.int .i64 (c.1:Int))=some (.int .i64 (min (a.1:Int) (c.1:Int))):=by
  have:(if (c.1:Int)<(a.1:Int) then (c.1:Int) else (a.1:Int))=min (a.1:Int) (c.1:Int):=by split<;>omega
  simp only[w7,this]
 generalize hmm:min (a.1:Int) (c.1:Int)=mm at hmin hlt;simp[-getElem?_pos,unA,hl1,hla,hlc,hmin,hlt];refine qc.acall (qeN d hd _ _) ?_;rintro v ⟨H1,T1⟩ ⟨B,M,t,rfl,hb,hk1,hB1,hM1⟩;simp[-getElem?_pos];simp only[qqg,qqs,qq0]at hB1 hM1;have hR1:H1[H.length+1]?=some (.cells [.sl 0 [] .nil]):=hk1.2 _ _ (by rw[qql (by omega)];simp) (by simp);have hkH:KpL [] H H1:=KpL.app.trans hk1;refine qc.acall (qhF hb hd hlv hlo hhi (by simp) (fun _=>h1) (fun _=>h2)) ?_;rintro v ⟨H2,T2⟩ ⟨d2,full2,i2,rfl,hn,hs2⟩;have hR2:H2[H.length+1]?=some (.cells [.sl 0 [] .nil]):=hn.kp.2 _ _ hR1 (by simp;omega);have hkH2:KpL [] H H2:=⟨by have:=hkH.1;have:=hn.kp.1;simp at this;omega,fun k x hk _=>by
  have hkl:=(qqc.1 hk).1;exact hn.kp.2 _ _ (hkH.2 k x hk (by simp)) (by simp;omega)⟩
 simp[-getElem?_pos,qN];refine qc.acall (qiJ hn.br i2) ?_;rintro v ⟨H3,T3⟩ ⟨rfl,hk3,rfl⟩;have hR3:H3[H.length+1]?=some (.cells [.sl 0 [] .nil]):=hk3.2 _ _ hR2 (by simp);have hRl3:=(qqc.1 hR3).1;have hkH3:∀ y,KpL [] H (H3.set (H.length+1) y):=fun y=>(hkH2.trans hk3).setF (by omega)
 cases full2
 . simp[-getElem?_pos,hR3,hRl3,qN,qF];exact⟨hkH3 _,.inr ⟨d2,i2,t,rfl,hn.gr,hn.ok,hn.lt,(hs2 rfl).1,fun b=>by rw[(hs2 rfl).2 b];exact hn.gr.ev hd b (by split<;>assumption)⟩⟩
 . simp[-getElem?_pos,hR3,hRl3,qN,qF];exact⟨hkH3 _,.inl rfl⟩
theorem bit417 (d:List Nd)(hd:DagOk d)(lv:Nat)(hlv:lv<20)(H:List Blk)(T:List (Option Nat)) :
 qf Tryz.prog GG 271 [.agg (zt d),.int .i64 lv] ⟨H,T⟩ (MakeQ d lv 0 1 H):=by
 refine qf.k qe Tryz.func271 rfl (by kernel_rfl) ?_;simp[-getElem?_pos,zn,zS,qF];have ht:=hd.two;have hex:=fun H T=>qoX d hd lv 0 1 hlv (by omega) (by omega) (by rw[qfM hd];exact hlv) (by rw[qfL hd];exact hlv) H T
 simp only[zt,Int.ofNat_zero,Int.ofNat_one,qrn,qtF]at hex;refine qc.acall (hex _ _) ?_;rintro v ⟨H2,T2⟩ ⟨hk,hr⟩;have hR:H2[H.length+1]?=some (.cells [.sl 0 [] .nil]):=hk.2 _ _ (by rw[qql (by omega)];simp) (by simp);have hRl:=(qqc.1 hR).1;have hkk:∀ y,KpL [] H (H2.set (H.length+1) y):=fun y=>(KpL.app.trans hk).setF (by omega)
 rcases hr with rfl|⟨d2,i2,t,rfl,g2,hd2,hi2,hs2⟩
 . simp[-getElem?_pos,hR,hRl,qN,qF];exact⟨hkk _,.inl rfl⟩
 . simp[-getElem?_pos,hR,hRl,qN,qF];exact⟨hkk _,.inr ⟨d2,i2,t,rfl,g2,hd2,hi2,hs2⟩⟩
end Go.Proofs.YtkpkjbchlabaaaaGreatDoor
end
