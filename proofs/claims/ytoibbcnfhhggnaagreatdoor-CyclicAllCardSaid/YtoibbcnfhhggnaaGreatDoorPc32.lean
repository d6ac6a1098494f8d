/- A part of the proof. -/
import Derived.Test.YtoibbcnfhhggnaaGreatDoorPc11
import Derived.Test.YtoibbcnfhhggnaaGreatDoorPc28
set_option maxHeartbeats 16000000
set_option linter.unusedVariables false
set_option linter.unusedSimpArgs false
set_option maxRecDepth 100000
set_option linter.defProp false
section
namespace Go.Proofs.YtoibbcnfhhggnaaGreatDoor
open Go Go.Abs
abbrev JU (n:Int):List AV:=[.int .i64 1,.int .i64 n,.str [],.sl 0 [] .nil]
theorem qdR (n:Int):zm (JU n) (qs (jr n)):=by
 rw[qd];simp[jr,zm,Leq]
abbrev rowX (s:Str):List AV:=[.int .i64 2,.int .i64 0,.str s,.sl 0 [] .nil]
theorem qkG (s:Str):zm (rowX s) (qs (Qt s)):=by
 rw[qd];simp[Qt,zm,Leq]
theorem qiK (c:List Rg):(c.flatMap fun r=>[jr r.1,jr r.2])=(zN c).map jr:=by
 unfold zN
 induction c with
 | nil=>rfl
 | cons r c ih=>rw[qqs,qqs,ih];simp
theorem qbe:∀ (l:List Int),j6 (l.map JU) ((l.map jr).map qs)
 | []=>VC
 | n::l=>wy (.inr ⟨qdR n,ju _⟩) (qbe l)
theorem qlr (s:Str)(c:List Rg):j6 (rowX s::(zN c).map JU) ((wI s c).args.map qs):=by
 have:(wI s c).args=Qt s::(zN c).map jr:=by rw[<- qiK];rfl
 rw[this,qqk];exact wy (.inr ⟨qkG s,ju _⟩) (qbe _)
def qgC (l d:List Int):List Int:=(d.zipIdx).flatMap fun q=>qgr l q.2 q.1
theorem qjr (l d:List Int)(n:Int):qgC l (d++[n])=qgC l d++qgr l d.length n:=by
 unfold qgC;rw[qr7,List.flatMap_append];simp
theorem qmv (l:List Int)(i:Nat)(n:Int):(qgr l i n).length<=2:=by
 unfold qgr;split<;>split<;>simp
theorem qeQ (l d:List Int):(qgC l d).length<=2*d.length:=by
 unfold qgC;generalize 0=k
 induction d generalizing k with
 | nil=>simp
 | cons n d ih=>
  rw[List.zipIdx_cons,qqs,qqb];have:=qmv l k n;have:=ih (k+1);simp only[qqm];omega
theorem appN (H:List Blk)(s:List Int)(n:Int)(hs:s.length<2 ^ 20):qB (Dof Tryz.prog) ⟨H,we [] s⟩ 23 (YR 4 JU 0 s) (.sl 4 [JU n] .tight)=some (YR 4 JU 0 (s++[n]),⟨H,we [] (s++[n])⟩) :=
 vd (D:=Dof Tryz.prog) (sz:=4) (T:=[]) (H:=H) (m:=[n]) (en:=JU) D23 rfl D52 rfl (by decide) rfl (by decide) (by simp only[qqA];omega) 4 (.inl rfl)
theorem wP (s:List Int):qQ (s.map JU)=true:=zz (fun x=>by simp[qq,qC]) s
theorem qmo (s:List Int):Pure Tryz.prog GG 60 [.sl 4 (s.map JU) .none,.int .i64 32] (.fn 89 [] [.rptr [.sl 4 (s.map JU) .none],.rptr [.int .i64 32]]):=by
 have hn:=wP s;generalize s.map JU=rows at hn;refine Pure.kO o0 true qe Tryz.func60 rfl (by kernel_rfl) ?_;simp[-getElem?_pos];have h1:∀ H k,frz H k (.sl 4 rows .none)=.sl 4 rows .none:=fun H k=>qt (by simpa[qC] using hn)
 have e:frz [Blk.cells [AV.sl 4 rows Tok.none],Blk.cells [AV.int IntKind.i64 32]] 8 (AV.fn 89 [] [AV.ptr 0 0,AV.ptr 1 0])=.fn 89 [] [.rptr [.sl 4 rows .none],.rptr [.int .i64 32]]:=by
  have p0:frz [Blk.cells [AV.sl 4 rows Tok.none],Blk.cells [AV.int IntKind.i64 32]] 7 (.ptr 0 0)=.rptr [.sl 4 rows .none]:=by
   rw[VI (c:=[AV.sl 4 rows Tok.none]) rfl];simp[h1]
  have p1:frz [Blk.cells [AV.sl 4 rows Tok.none],Blk.cells [AV.int IntKind.i64 32]] 7 (.ptr 1 0)=.rptr [.int .i64 32]:=by
   rw[VI (c:=[AV.int IntKind.i64 32]) rfl];simp[wU]
  rw[frz];simp[qC,qq,p0,p1]
 rw[e];exact⟨by simp[qC,qq,hn],Leq.refl _⟩
structure NearK (k:Nat)(c:List AV)(Y:Ex):Prop where
 len:c.length=4
 atoms:c.all AV.atom=true
 fz:∀ H j,k<=j->zm (c.map (frz H j)) (qs Y)/\qq (c.map (frz H j))=true/\(c.map (frz H j)).all AV.atom=true
theorem NearK.mono {k k':Nat}{c:List AV}{Y:Ex}(h:NearK k c Y)(hk:k<=k'):NearK k' c Y:=⟨h.len,h.atoms,fun H j hj=>h.fz H j (by omega)⟩
theorem VK {H:List Blk}{j:Nat}:∀ {c:List AV},qq c=true->c.map (frz H j)=c
 | [],_=>rfl
 | a::r,h=>by
  simp only[qq,qp9]at h;rw[qqk,qt h.1,VK h.2]
theorem VJ {H:List Blk}{j:Nat}:∀ {c:List (List AV)},qQ c=true->c.map (·.map (frz H j))=c
 | [],_=>rfl
 | a::r,h=>by
  simp only[qQ,qp9]at h;rw[qqk,VK h.1,VJ h.2]
theorem qpk {H:List Blk}{j:Nat}{rows:List (List AV)}{tok:Tok}(hn:qQ (rows.map (·.map (frz H j)))=true)(ha:(rows.map (·.map (frz H j))).all (·.all AV.atom)=true) :
 ∃ tok',frz H (j+1) (.sl 4 rows tok)=.sl 4 (rows.map (·.map (frz H j))) tok'/\qC (.sl 4 (rows.map (·.map (frz H j))) tok')=true:=by
 by_cases h:qC (.sl 4 rows tok)=true
 . have hr:qQ rows=true:=by
    cases tok with
    | chain=>simp[qC]at h
    | _=>simpa[qC] using h
   rw[VJ hr];exact⟨tok,qt h,h⟩
 . refine⟨.none,?_,by simp only[qC,hn];rfl⟩;rw[frz,if_neg h,if_pos ha]
theorem qeg {k:Nat}{o n:Int}{s:Str}{rows:List (List AV)}{args:List Ex}{tok:Tok}(h:∀ H j,k<=j->j6 (rows.map (·.map (frz H j))) (args.map qs)/\qQ (rows.map (·.map (frz H j)))=true/\(rows.map (·.map (frz H j))).all (·.all AV.atom)=true) :
 NearK (k+1) [.int .i64 o,.int .i64 n,.str s,.sl 4 rows tok] (.mk o n s args):=by
 refine⟨rfl,rfl,fun H j hj=>?_⟩;obtain⟨j,rfl⟩:∃ i,j=i+1:=⟨j-1,by omega⟩;obtain⟨h1,h2,h3⟩:=h H j (by omega);obtain⟨tok',e,hn⟩:=qpk (tok:=tok) h2 h3;have e2 : [AV.int .i64 o,.int .i64 n,.str s,.sl 4 rows tok].map (frz H (j+1))=[.int .i64 o,.int .i64 n,.str s,.sl 4 (rows.map (·.map (frz H j))) tok']:=by
  simp only[qqk,qqF,wU,qcP,e]
 rw[e2];refine⟨?_,by simp only[qq,hn];simp[qC],rfl⟩;rw[qd];simp only[zm,Leq,and_true,true_and,Ex.op_mk,Ex.n_mk,Ex.name_mk,Ex.args_mk];exact .inr ⟨h1,.inl trivial⟩
theorem qlf (n:Int):NearK 0 (JU n) (jr n):=⟨rfl,rfl,fun H j _=>by
 rw[VK (by simp)];exact⟨qdR n,by simp,rfl⟩⟩
theorem qlg (s:Str)(c:List Rg)(tok:Tok):NearK 1 [.int .i64 23,.int .i64 0,.str [],.sl 4 (rowX s::(zN c).map JU) tok] (wI s c) :=
 qeg (k:=0) (args:=(wI s c).args) fun H j _=>by
  rw[VJ (by simp[wP])];exact⟨qlr s c,by simp[wP],by simp[qqi]⟩
theorem qoV {k:Nat}{c d:List AV}{Y Z:Ex}{tok:Tok}(hc:NearK k c Y)(hd:NearK k d Z):NearK (k+1) [.int .i64 20,.int .i64 0,.str [],.sl 4 [c,d] tok] (orE Y Z) :=
 qeg (args:=[Y,Z]) fun H j hj=>by
  obtain⟨h1,h2,h3⟩:=hc.fz H j hj;obtain⟨g1,g2,g3⟩:=hd.fz H j hj;simp only[qqk,qqF];refine⟨wy (.inr ⟨h1,ju _⟩) (wy (.inr ⟨g1,ju _⟩) VC),by simp[h2,g2],by simp only[qrL,List.all_nil,h3,g3];rfl⟩
theorem qfE (RS:List Rg)(i:Nat):KQ ((zN RS).map JU) i=(zN ((RS.drop (16*i)).take 16)).map JU:=by
 rw[<- qf8];unfold KQ;rw[List.map_take,List.map_drop]
def MkJ (s:Str)(RS:List Rg)(i:Nat)(U:St):Prop :=
 ∃ o c1 c2 c3 t,U.H=.cells [.str s]::.cells [.int .i64 0,.int .i64 0,.str [],.sl 0 [] .nil]::.cells [.int .i64 o,c1,c2,c3]::t/\NearK i [.int .i64 o,c1,c2,c3] (qo0 s RS i)/\(i=0->o=1)/\(i≠0->o≠1)
def MeJ (s:Str)(l d:List Int)(env:Env)(U:St):Prop :=
 env 1=.sl 1 (l.map qy) .none/\env 12=.sl 1 (l.map qy) .none/\env 13=.int .i64 l.length/\env 14=.int .i64 d.length/\env 2=.ptr 0 0/\env 4=.ptr 1 0/\env 5=YR 4 JU 0 (qgC l d) /\
  U=⟨[.cells [.str s],.cells [.int .i64 0,.int .i64 0,.str [],.sl 0 [] .nil]],we [] (qgC l d)⟩
theorem qlm (s:Str)(l:List Int)(h0:l≠[])(hl:l.length<=1000)(hr:∀ n∈l,0<=n/\n<=65535)(hrs:(kh l).length<=112):Pure Tryz.prog GG 32 [.str s,.sl 1 (l.map qy) .none] (.agg (qs (jA s (kh l)))):=by
 refine Pure.kO o0 true qe Tryz.func32 rfl (by kernel_rfl) ?_;have hpos:=qql.2 h0;have w1:IntKind.i64.wrap 1=1:=wr (by omega) (by omega);have w0:IntKind.i64.wrap 0=0:=wr (by omega) (by omega);simp[-getElem?_pos];refine qL.listR l (fun d ev U=>MeJ s l d ev U) ?_ ?_ ?_
 . simp[MeJ,qgC]
 . rintro d n r ev ⟨H,T⟩ R hR hd hx hlt ⟨e1,e12,e13,e14,e2,e4,e5,hσ⟩;obtain⟨rfl,rfl⟩:=(St.mk.injEq _ _ _ _).mp hσ;have hnn:=hr n (qp6 hx);have hw:=wr (n:=(d.length:Int)+1) (by omega) (by omega);have hwm:=wr (n:=n-1) (by omega) (by omega);have hwp:=wr (n:=n+1) (by omega) (by omega);have hlw:=wr (n:=(l.length:Int)-1) (by omega) (by omega);have hlt':(d.length:Int)<l.length:=(by omega);have hlt1:d.length+1<=l.length:=(by omega);have hbl:=qeQ l d;have hb1:(qgC l d).length<2 ^ 20:=(by omega);have hb2:(qgC l d++[n]).length<2 ^ 20:=(by simp;omega);have hsn:=qjr l d n;generalize qgC l d=B at *;have a1:=fun H=>appN H B n hb1
   have a2:=fun H=>appN H (B++[n]) n hb2
   have fin:∀ ev' T',ev' 1=.sl 1 (l.map qy) .none->ev' 12=.sl 1 (l.map qy) .none->ev' 13=.int .i64 l.length->ev' 14=.int .i64 ((d.length:Int)+1)->ev' 2=.ptr 0 0->ev' 4=.ptr 1 0->ev' 5=YR 4 JU 0 (B++qgr l d.length n) ->
    T'=we [] (B++qgr l d.length n)->R ev' ⟨[.cells [.str s],.cells [.int .i64 0,.int .i64 0,.str [],.sl 0 [] .nil]],T'⟩:=by
    intro ev' T' b1 b12 b13 b14 b2 b4 b5 hT;exact hR _ _ ⟨b1,b12,b13,by rw[b14];simp,b2,b4,by rw[hsn];exact b5,by rw[hsn,hT]⟩
   have hst:(d.length=0/\(if d.length=0\/l.getD (d.length-1) 0≠n-1 then [n] else [])=[n])\/∃ k y,d.length=k+1/\l[k]?=some y/\(if d.length=0\/l.getD (d.length-1) 0≠n-1 then [n] else [])=if y=n-1 then [] else [n]:=by
    rcases qrh d.length with h|h
    . exact .inl ⟨h,by rw[if_pos (.inl h)]⟩
    . obtain⟨k,hk⟩:∃ k,d.length=k+1:=⟨d.length-1,by omega⟩;have hy:=qp8 (l:=l) (i:=k) (by omega);refine .inr ⟨k,_,hk,hy,?_⟩;rw[hk,qqh,Nat.add_sub_cancel,hy];simp
   have hen:(d.length+1=l.length/\(if d.length+1=l.length\/l.getD (d.length+1) 0≠n+1 then [n] else [])=[n])\/∃ z,d.length+1<l.length/\l[d.length+1]?=some z/\(if d.length+1=l.length\/l.getD (d.length+1) 0≠n+1 then [n] else [])=if z=n+1 then [] else [n]:=by
    by_cases h:d.length+1=l.length
    . exact .inl ⟨h,by rw[if_pos (.inl h)]⟩
    . have hy:=qp8 (l:=l) (i:=d.length+1) (by omega);refine .inr ⟨_,by omega,hy,?_⟩;rw[qqh,hy];simp[h]
   unfold qgr at fin;generalize hm:d.length=m at *;have hst2:∃ X,(if m=0\/l.getD (m-1) 0≠n-1 then [n] else [])=X/\(X=[]\/X=[n]):=⟨_,rfl,by split<;>simp⟩;have hen2:∃ X,(if m+1=l.length\/l.getD (m+1) 0≠n+1 then [n] else [])=X/\(X=[]\/X=[n]):=⟨_,rfl,by split<;>simp⟩;clear hsn hm hd;rcases hst with ⟨rfl,h2⟩|⟨k,y,rfl,hy,h2⟩<;>rcases hen with ⟨g1,g2⟩|⟨z,g1,hz,g2⟩
   . rw[h2,g2]at fin;have gl:(l.length:Int)-1=((0:Nat):Int):=(by omega);rw[gl]at hlw;simp[-getElem?_pos,gl,a1,a2,e1,e12,e13,e14,e2,e4,e5,hlt,hlt',hlt1,hx,hw,hwm,hwp,hlw,w0,w1,h0,hpos,qV,zu,qv];exact fin _ _ (by simp[e1]) (by simp[e12]) (by simp[e13]) (by simp) (by simp[e2]) (by simp[e4]) (by simp[e5]) (by simp)
   . rw[h2,g2]at fin;have gl:¬ (0:Int)=(l.length:Int)-1:=(by omega);have gz:(1:Int)<(l.length:Int):=(by omega);have gz':1<l.length:=(by omega);have hz':l[1]?=some z:=(by simpa using hz);by_cases hc:z=n+1
     . rw[if_pos hc]at fin;simp[-getElem?_pos,gl,gz,gz',hz',hc,a1,a2,e1,e12,e13,e14,e2,e4,e5,hlt,hlt',hlt1,hx,hw,hwm,hwp,hlw,w0,w1,h0,hpos,qV,zu,qv];exact fin _ _ (by simp[e1]) (by simp[e12]) (by simp[e13]) (by simp) (by simp[e2]) (by simp[e4]) (by simp[e5]) (by simp)
     . rw[if_neg hc]at fin;simp[-getElem?_pos,gl,gz,gz',hz',hc,a1,a2,e1,e12,e13,e14,e2,e4,e5,hlt,hlt',hlt1,hx,hw,hwm,hwp,hlw,w0,w1,h0,hpos,qV,zu,qv];exact fin _ _ (by simp[e1]) (by simp[e12]) (by simp[e13]) (by simp) (by simp[e2]) (by simp[e4]) (by simp[e5]) (by simp)
   . rw[h2,g2]at fin;have gl:(l.length:Int)-1=((k:Int)+1):=(by omega);have gk:((k+1:Nat):Int)-1=(k:Int):=(by omega);have gk':(k:Int)+1-1=(k:Int):=(by omega);have wk:=wr (n:=(k:Int)) (by omega) (by omega);have wk1:=wr (n:=(k:Int)+1) (by omega) (by omega);have wk2:=wr (n:=(k:Int)+1+1) (by omega) (by omega);have kl:(k:Int)<l.length:=(by omega);have kl':k<l.length:=(by omega);have kl2:(k:Int)+1<l.length:=(by omega);have k0:¬ (k:Int)+1=0:=(by omega);have kn:(0:Int)<=(k:Int)+1:=(by omega);have kt:((k:Int)+1).toNat=k+1:=(by omega);rw[gl]at hlw;by_cases hb:y=n-1
     . rw[if_pos hb]at fin;simp[-getElem?_pos,gl,gk,gk',wk,wk1,kl,kl',kl2,k0,kn,kt,hy,hb,a1,a2,e1,e12,e13,e14,e2,e4,e5,hlt,hlt',hlt1,hx,hw,hwm,hwp,hlw,w0,w1,h0,hpos,qV,zu,qv];exact fin _ _ (by simp[e1]) (by simp[e12]) (by simp[e13]) (by simp[wk2]) (by simp[e2]) (by simp[e4]) (by simp[e5]) (by simp)
     . rw[if_neg hb]at fin;simp[-getElem?_pos,gl,gk,gk',wk,wk1,kl,kl',kl2,k0,kn,kt,hy,hb,a1,a2,e1,e12,e13,e14,e2,e4,e5,hlt,hlt',hlt1,hx,hw,hwm,hwp,hlw,w0,w1,h0,hpos,qV,zu,qv];exact fin _ _ (by simp[e1]) (by simp[e12]) (by simp[e13]) (by simp[wk2]) (by simp[e2]) (by simp[e4]) (by simp[e5]) (by simp)
   . rw[h2,g2]at fin;have gl:¬ (k:Int)+1=(l.length:Int)-1:=(by omega);have gk:((k+1:Nat):Int)-1=(k:Int):=(by omega);have gk':(k:Int)+1-1=(k:Int):=(by omega);have wk:=wr (n:=(k:Int)) (by omega) (by omega);have wk1:=wr (n:=(k:Int)+1) (by omega) (by omega);have wk2:=wr (n:=(k:Int)+1+1) (by omega) (by omega);have kl:(k:Int)<l.length:=(by omega);have kl':k<l.length:=(by omega);have kl2:(k:Int)+1<l.length:=(by omega);have kl3:(k:Int)+1+1<l.length:=(by omega);have kl4:k+1+1<l.length:=(by omega);have k0:¬ (k:Int)+1=0:=(by omega);have kn:(0:Int)<=(k:Int)+1:=(by omega);have kn2:(0:Int)<=(k:Int)+1+1:=(by omega);have kt:((k:Int)+1).toNat=k+1:=(by omega);have kt2:((k:Int)+1+1).toNat=k+1+1:=(by omega);by_cases hb:y=n-1<;>by_cases hc:z=n+1
     . rw[if_pos hb,if_pos hc]at fin;simp[-getElem?_pos,gl,gk,gk',wk,wk1,wk2,kl,kl',kl2,kl3,kl4,k0,kn,kn2,kt,kt2,hy,hb,hc,hz,a1,a2,e1,e12,e13,e14,e2,e4,e5,hlt,hlt',hlt1,hx,hw,hwm,hwp,hlw,w0,w1,h0,hpos,qV,zu,qv];exact fin _ _ (by simp[e1]) (by simp[e12]) (by simp[e13]) (by simp[wk2]) (by simp[e2]) (by simp[e4]) (by simp[e5]) (by simp)
     . rw[if_pos hb,if_neg hc]at fin;simp[-getElem?_pos,gl,gk,gk',wk,wk1,wk2,kl,kl',kl2,kl3,kl4,k0,kn,kn2,kt,kt2,hy,hb,hc,hz,a1,a2,e1,e12,e13,e14,e2,e4,e5,hlt,hlt',hlt1,hx,hw,hwm,hwp,hlw,w0,w1,h0,hpos,qV,zu,qv];exact fin _ _ (by simp[e1]) (by simp[e12]) (by simp[e13]) (by simp[wk2]) (by simp[e2]) (by simp[e4]) (by simp[e5]) (by simp)
     . rw[if_neg hb,if_pos hc]at fin;simp[-getElem?_pos,gl,gk,gk',wk,wk1,wk2,kl,kl',kl2,kl3,kl4,k0,kn,kn2,kt,kt2,hy,hb,hc,hz,a1,a2,e1,e12,e13,e14,e2,e4,e5,hlt,hlt',hlt1,hx,hw,hwm,hwp,hlw,w0,w1,h0,hpos,qV,zu,qv];exact fin _ _ (by simp[e1]) (by simp[e12]) (by simp[e13]) (by simp[wk2]) (by simp[e2]) (by simp[e4]) (by simp[e5]) (by simp)
     . rw[if_neg hb,if_neg hc]at fin;simp[-getElem?_pos,gl,gk,gk',wk,wk1,wk2,kl,kl',kl2,kl3,kl4,k0,kn,kn2,kt,kt2,hy,hb,hc,hz,a1,a2,e1,e12,e13,e14,e2,e4,e5,hlt,hlt',hlt1,hx,hw,hwm,hwp,hlw,w0,w1,h0,hpos,qV,zu,qv];exact fin _ _ (by simp[e1]) (by simp[e12]) (by simp[e13]) (by simp[wk2]) (by simp[e2]) (by simp[e4]) (by simp[e5]) (by simp)
 . rintro ev ⟨H,T⟩ ⟨e1,e12,e13,e14,e2,e4,e5,hσ⟩;obtain⟨rfl,rfl⟩:=(St.mk.injEq _ _ _ _).mp hσ;have hB:qgC l l=zN (kh l):=(by rw[<- qmu];rfl);rw[hB]at e5 ⊢;have hne:kh l≠[]:=fun e=>by
    obtain⟨n,hn⟩:=qsI l h0;obtain⟨r,hr,_⟩:=(qdS n l).2 hn;rw[e]at hr;cases hr
   have hBne:zN (kh l)≠[]:=fun e=>by
    have h1:=vU (kh l);have h2:=qql.2 hne;rw[e]at h1;simp at h1;omega
   have hlen:(zN (kh l)).length<=2000:=by
    have:=qeQ l l;rw[hB]at this;omega
   have hres:=qhN s (kh l) hne;have hpn:vM (zN (kh l)).length=((kh l).length+15) / 16:=by
    rw[vU];unfold vM;omega
   generalize hRS:kh l=RS at *;generalize hU:jA s RS=U_ at *;have hch:=qmo (zN RS);have hfw:=fw190 GG ((zN RS).map JU) .none (by simp;omega);rw[qcA hBne]at e5;rw[Vl hBne];simp[-getElem?_pos,e1,e12,e13,e14,e2,e4,e5,qV,zu,qv];refine qc.pure hch (by simp[wP]) (by simp) ?_;simp[-getElem?_pos];refine qbg (YJ _) (fun _=>True) _ (MkJ s RS) (by simp[Go.Abs.ev]) hfw (fun _ _ _=>trivial) ?_ ?_ ?_
   . exact⟨1,_,_,_,_,rfl,qlf 0,fun _=>rfl,fun h=>absurd rfl h⟩
   . rintro i v ⟨H,T⟩ hi ⟨o,c1,c2,c3,t,hH,hnear,ho0,ho1⟩;dsimp only at hH;subst hH;have hik:i<vM ((zN RS).map JU).length:=by
      have:=(qp5.1 hi).1;simpa using this
     have hv:v=.sl 4 ((zN ((RS.drop (16*i)).take 16)).map JU) .none:=by
      rw[qqp]at hi;obtain⟨k,hk,e⟩:=qqc.1 hi;obtain⟨_,hk⟩:=qp5.1 hk;rw[List.getElem_range]at hk;subst hk;rw[<- e,qfE]
     subst hv;have hP:qo0 s RS (i+1)=if i=0 then wI s ((RS.drop (16*i)).take 16) else orE (qo0 s RS i) (wI s ((RS.drop (16*i)).take 16)):=rfl
     have hlp:((zN ((RS.drop (16*i)).take 16)).map JU).length<=32:=by
      rw[qqI,vU,qqD];omega
     have hPne0:zN ((RS.drop (16*i)).take 16)≠[]:=fun e=>by
      have h1:=vU ((RS.drop (16*i)).take 16);rw[e,qqD,qrq]at h1;have h2:=hik;rw[qqI,vU]at h2;unfold vM at h2;simp at h1;omega
     generalize (RS.drop (16*i)).take 16=P at *;have hni:=fun tok=>qlg s P tok
     have hPne:zN P≠[]:=hPne0;have hl1:1+(zN P).length<=549755813888:=(by rw[qqI]at hlp;omega);have hPe:∀ n∈(zN P).map JU,n.all AV.atom=true:=(by simp);by_cases hi0:i=0
     . have ho:=ho0 hi0;subst ho;simp[-getElem?_pos,e2,e4,qV,zu,qv,qB,zp,hl1,hPne];refine⟨23,_,_,_,_,rfl,?_,fun h=>absurd h (by omega),fun _=>by omega⟩;rw[hP,if_pos hi0,hi0];exact hni _
     . have ho:=ho1 hi0;rw[if_neg hi0]at hP;simp[-getElem?_pos,-qK,qdl hnear.atoms,KG,V8,Qb,ho,e2,e4,qV,zu,qv,qB,zp,hl1,hPne];refine⟨20,_,_,_,_,rfl,?_,fun h=>absurd h (by omega),fun _=>by omega⟩;rw[hP];have hm:max i 1=i:=(by omega);exact qoV hnear ((hni _).mono (by omega))
   . rintro⟨H,T⟩ ⟨o,c1,c2,c3,t,hH,hnear,ho0,ho1⟩;dsimp only at hH;subst hH;have hvl:(List.map (fun k=>AV.sl 4 (KQ (List.map JU (zN RS)) k) Tok.none) (List.range (vM (List.map JU (zN RS)).length))).length=(RS.length+15) / 16:=by
      rw[qqI,qsA,qqI,hpn]
     rw[hvl,hres]at hnear;simp[-getElem?_pos,-qK,qdl hnear.atoms,e2,e4];have hk7:(RS.length+15) / 16<=7:=(by omega);clear e1 e12 e13 e14 e2 e4 e5;generalize (RS.length+15) / 16=k at *;generalize [AV.int .i64 o,c1,c2,c3]=c at *;generalize (Blk.cells [AV.str s]::_:List Blk)=HH;by_cases h:qC (.agg c)=true
     . rw[qt h];have hn:qq c=true:=(by simpa[qC] using h);have:=hnear.fz HH k (qqf _);rw[VK hn]at this;exact⟨h,by simp only[Leq];exact this.1⟩
     . have:=hnear.fz HH 7 hk7;have e:frz HH 8 (.agg c)=.agg (c.map (frz HH 7)):=by
        rw[frz,if_neg h]
       rw[e];exact⟨by simpa[qC] using this.2.1,by simp only[Leq];exact this.1⟩
end Go.Proofs.YtoibbcnfhhggnaaGreatDoor
end
