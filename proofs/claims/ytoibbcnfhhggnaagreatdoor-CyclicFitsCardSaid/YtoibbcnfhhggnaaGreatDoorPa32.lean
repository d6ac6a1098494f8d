/- A part of the proof. -/
import Derived.Test.YtoibbcnfhhggnaaGreatDoorPa11
import Derived.Test.YtoibbcnfhhggnaaGreatDoorPa28
set_option maxHeartbeats 16000000
set_option linter.unusedVariables false
set_option linter.unusedSimpArgs false
set_option maxRecDepth 100000
set_option linter.defProp false
section
namespace Go.Proofs.YtoibbcnfhhggnaaGreatDoor
open Go Go.Abs
abbrev JO (n:Int):List AV:=[.int .i64 1,.int .i64 n,.str [],.sl 0 [] .nil]
theorem qdS (n:Int):zj (JO n) (qu (jq n)):=by
 rw[qc];simp[jq,zj,Leq]
abbrev rowX (s:Str):List AV:=[.int .i64 2,.int .i64 0,.str s,.sl 0 [] .nil]
theorem qkL (s:Str):zj (rowX s) (qu (Qu s)):=by
 rw[qc];simp[Qu,zj,Leq]
theorem qiJ (c:List Rg):(c.flatMap fun r=>[jq r.1,jq r.2])=(zI c).map jq:=by
 unfold zI
 induction c with
 | nil=>rfl
 | cons r c ih=>rw[qqG,qqG,ih];simp
theorem qbc:∀ (l:List Int),jZ (l.map JO) ((l.map jq).map qu)
 | []=>Vr
 | n::l=>wo (.inr ⟨qdS n,js _⟩) (qbc l)
theorem qlC (s:Str)(c:List Rg):jZ (rowX s::(zI c).map JO) ((wE s c).args.map qu):=by
 have:(wE s c).args=Qu s::(zI c).map jq:=by rw[<- qiJ];rfl
 rw[this,qqx];exact wo (.inr ⟨qkL s,js _⟩) (qbc _)
def qgB (l d:List Int):List Int:=(d.zipIdx).flatMap fun q=>qgo l q.2 q.1
theorem qjr (l d:List Int)(n:Int):qgB l (d++[n])=qgB l d++qgo l d.length n:=by
 unfold qgB;rw[qso,List.flatMap_append];simp
theorem qmF (l:List Int)(i:Nat)(n:Int):(qgo l i n).length<=2:=by
 unfold qgo;split<;>split<;>simp
theorem qeU (l d:List Int):(qgB l d).length<=2*d.length:=by
 unfold qgB;generalize 0=k
 induction d generalizing k with
 | nil=>simp
 | cons n d ih=>
  rw[List.zipIdx_cons,qqG,qqr];have:=qmF l k n;have:=ih (k+1);simp only[qqC];omega
theorem appN (H:List Blk)(s:List Int)(n:Int)(hs:s.length<2 ^ 20):qD (Dof Tryz.prog) ⟨H,kR [] s⟩ 23 (YG 4 JO 0 s) (.sl 4 [JO n] .tight)=some (YG 4 JO 0 (s++[n]),⟨H,kR [] (s++[n])⟩) :=
 yx (D:=Dof Tryz.prog) (sz:=4) (T:=[]) (H:=H) (m:=[n]) (en:=JO) D23 rfl D52 rfl (by decide) rfl (by decide) (by simp only[qqO];omega) 4 (.inl rfl)
theorem wN (s:List Int):qT (s.map JO)=true:=zq (fun x=>by simp[qq,qF]) s
theorem qmy (s:List Int):Pure Tryz.prog GG 60 [.sl 4 (s.map JO) .none,.int .i64 32] (.fn 89 [] [.rptr [.sl 4 (s.map JO) .none],.rptr [.int .i64 32]]):=by
 have hn:=wN s;generalize s.map JO=rows at hn;refine Pure.kO o0 true qe Tryz.func60 rfl (by kernel_rfl) ?_;simp[-getElem?_pos];have h1:∀ H k,frz H k (.sl 4 rows .none)=.sl 4 rows .none:=fun H k=>qv (by simpa[qF] using hn)
 have e:frz [Blk.cells [AV.sl 4 rows Tok.none],Blk.cells [AV.int IntKind.i64 32]] 8 (AV.fn 89 [] [AV.ptr 0 0,AV.ptr 1 0])=.fn 89 [] [.rptr [.sl 4 rows .none],.rptr [.int .i64 32]]:=by
  have p0:frz [Blk.cells [AV.sl 4 rows Tok.none],Blk.cells [AV.int IntKind.i64 32]] 7 (.ptr 0 0)=.rptr [.sl 4 rows .none]:=by
   rw[Vw (c:=[AV.sl 4 rows Tok.none]) rfl];simp[h1]
  have p1:frz [Blk.cells [AV.sl 4 rows Tok.none],Blk.cells [AV.int IntKind.i64 32]] 7 (.ptr 1 0)=.rptr [.int .i64 32]:=by
   rw[Vw (c:=[AV.int IntKind.i64 32]) rfl];simp[wQ]
  rw[frz];simp[qF,qq,p0,p1]
 rw[e];exact⟨by simp[qF,qq,hn],Leq.refl _⟩
structure NearK (k:Nat)(c:List AV)(Y:Ex):Prop where
 len:c.length=4
 atoms:c.all AV.atom=true
 fz:∀ H j,k<=j->zj (c.map (frz H j)) (qu Y)/\qq (c.map (frz H j))=true/\(c.map (frz H j)).all AV.atom=true
theorem NearK.mono {k k':Nat}{c:List AV}{Y:Ex}(h:NearK k c Y)(hk:k<=k'):NearK k' c Y:=⟨h.len,h.atoms,fun H j hj=>h.fz H j (by omega)⟩
theorem Vy {H:List Blk}{j:Nat}:∀ {c:List AV},qq c=true->c.map (frz H j)=c
 | [],_=>rfl
 | a::r,h=>by
  simp only[qq,qqq]at h;rw[qqx,qv h.1,Vy h.2]
theorem Vx {H:List Blk}{j:Nat}:∀ {c:List (List AV)},qT c=true->c.map (·.map (frz H j))=c
 | [],_=>rfl
 | a::r,h=>by
  simp only[qT,qqq]at h;rw[qqx,Vy h.1,Vx h.2]
theorem qpF {H:List Blk}{j:Nat}{rows:List (List AV)}{tok:Tok}(hn:qT (rows.map (·.map (frz H j)))=true)(ha:(rows.map (·.map (frz H j))).all (·.all AV.atom)=true) :
 ∃ tok',frz H (j+1) (.sl 4 rows tok)=.sl 4 (rows.map (·.map (frz H j))) tok'/\qF (.sl 4 (rows.map (·.map (frz H j))) tok')=true:=by
 by_cases h:qF (.sl 4 rows tok)=true
 . have hr:qT rows=true:=by
    cases tok with
    | chain=>simp[qF]at h
    | _=>simpa[qF] using h
   rw[Vx hr];exact⟨tok,qv h,h⟩
 . refine⟨.none,?_,by simp only[qF,hn];rfl⟩;rw[frz,if_neg h,if_pos ha]
theorem qel {k:Nat}{o n:Int}{s:Str}{rows:List (List AV)}{args:List Ex}{tok:Tok}(h:∀ H j,k<=j->jZ (rows.map (·.map (frz H j))) (args.map qu)/\qT (rows.map (·.map (frz H j)))=true/\(rows.map (·.map (frz H j))).all (·.all AV.atom)=true) :
 NearK (k+1) [.int .i64 o,.int .i64 n,.str s,.sl 4 rows tok] (.mk o n s args):=by
 refine⟨rfl,rfl,fun H j hj=>?_⟩;obtain⟨j,rfl⟩:∃ i,j=i+1:=⟨j-1,by omega⟩;obtain⟨h1,h2,h3⟩:=h H j (by omega);obtain⟨tok',e,hn⟩:=qpF (tok:=tok) h2 h3;have e2 : [AV.int .i64 o,.int .i64 n,.str s,.sl 4 rows tok].map (frz H (j+1))=[.int .i64 o,.int .i64 n,.str s,.sl 4 (rows.map (·.map (frz H j))) tok']:=by
  simp only[qqx,qqQ,wQ,qcS,e]
 rw[e2];refine⟨?_,by simp only[qq,hn];simp[qF],rfl⟩;rw[qc];simp only[zj,Leq,and_true,true_and,Ex.op_mk,Ex.n_mk,Ex.name_mk,Ex.args_mk];exact .inr ⟨h1,.inl trivial⟩
theorem qls (n:Int):NearK 0 (JO n) (jq n):=⟨rfl,rfl,fun H j _=>by
 rw[Vy (by simp)];exact⟨qdS n,by simp,rfl⟩⟩
theorem qlt (s:Str)(c:List Rg)(tok:Tok):NearK 1 [.int .i64 23,.int .i64 0,.str [],.sl 4 (rowX s::(zI c).map JO) tok] (wE s c) :=
 qel (k:=0) (args:=(wE s c).args) fun H j _=>by
  rw[Vx (by simp[wN])];exact⟨qlC s c,by simp[wN],by simp[qqy]⟩
theorem qpi {k:Nat}{c d:List AV}{Y Z:Ex}{tok:Tok}(hc:NearK k c Y)(hd:NearK k d Z):NearK (k+1) [.int .i64 20,.int .i64 0,.str [],.sl 4 [c,d] tok] (orE Y Z) :=
 qel (args:=[Y,Z]) fun H j hj=>by
  obtain⟨h1,h2,h3⟩:=hc.fz H j hj;obtain⟨g1,g2,g3⟩:=hd.fz H j hj;simp only[qqx,qqQ];refine⟨wo (.inr ⟨h1,js _⟩) (wo (.inr ⟨g1,js _⟩) Vr),by simp[h2,g2],by simp only[qrS,List.all_nil,h3,g3];rfl⟩
theorem qfH (RS:List Rg)(i:Nat):KC ((zI RS).map JO) i=(zI ((RS.drop (16*i)).take 16)).map JO:=by
 rw[<- qf8];unfold KC;rw[List.map_take,List.map_drop]
def MkJ (s:Str)(RS:List Rg)(i:Nat)(U:St):Prop :=
 ∃ o c1 c2 c3 t,U.H=.cells [.str s]::.cells [.int .i64 0,.int .i64 0,.str [],.sl 0 [] .nil]::.cells [.int .i64 o,c1,c2,c3]::t/\NearK i [.int .i64 o,c1,c2,c3] (qpl s RS i)/\(i=0->o=1)/\(i≠0->o≠1)
def MeJ (s:Str)(l d:List Int)(env:Env)(U:St):Prop :=
 env 1=.sl 1 (l.map qo) .none/\env 12=.sl 1 (l.map qo) .none/\env 13=.int .i64 l.length/\env 14=.int .i64 d.length/\env 2=.ptr 0 0/\env 4=.ptr 1 0/\env 5=YG 4 JO 0 (qgB l d) /\
  U=⟨[.cells [.str s],.cells [.int .i64 0,.int .i64 0,.str [],.sl 0 [] .nil]],kR [] (qgB l d)⟩
theorem qlx (s:Str)(l:List Int)(h0:l≠[])(hl:l.length<=1000)(hr:∀ n∈l,0<=n/\n<=65535)(hrs:(kv l).length<=112):Pure Tryz.prog GG 32 [.str s,.sl 1 (l.map qo) .none] (.agg (qu (ye s (kv l)))):=by
 refine Pure.kO o0 true qe Tryz.func32 rfl (by kernel_rfl) ?_;have hpos:=qqB.2 h0;have w1:IntKind.i64.wrap 1=1:=wr (by omega) (by omega);have w0:IntKind.i64.wrap 0=0:=wr (by omega) (by omega);simp[-getElem?_pos];refine qM.listR l (fun d ev U=>MeJ s l d ev U) ?_ ?_ ?_
 . simp[MeJ,qgB]
 . rintro d n r ev ⟨H,T⟩ R hR hd hx hlt ⟨e1,e12,e13,e14,e2,e4,e5,hσ⟩;obtain⟨rfl,rfl⟩:=(St.mk.injEq _ _ _ _).mp hσ;have hnn:=hr n (qqm hx);have hw:=wr (n:=(d.length:Int)+1) (by omega) (by omega);have hwm:=wr (n:=n-1) (by omega) (by omega);have hwp:=wr (n:=n+1) (by omega) (by omega);have hlw:=wr (n:=(l.length:Int)-1) (by omega) (by omega);have hlt':(d.length:Int)<l.length:=(by omega);have hlt1:d.length+1<=l.length:=(by omega);have hbl:=qeU l d;have hb1:(qgB l d).length<2 ^ 20:=(by omega);have hb2:(qgB l d++[n]).length<2 ^ 20:=(by simp;omega);have hsn:=qjr l d n;generalize qgB l d=B at *;have a1:=fun H=>appN H B n hb1
   have a2:=fun H=>appN H (B++[n]) n hb2
   have fin:∀ ev' T',ev' 1=.sl 1 (l.map qo) .none->ev' 12=.sl 1 (l.map qo) .none->ev' 13=.int .i64 l.length->ev' 14=.int .i64 ((d.length:Int)+1)->ev' 2=.ptr 0 0->ev' 4=.ptr 1 0->ev' 5=YG 4 JO 0 (B++qgo l d.length n) ->
    T'=kR [] (B++qgo l d.length n)->R ev' ⟨[.cells [.str s],.cells [.int .i64 0,.int .i64 0,.str [],.sl 0 [] .nil]],T'⟩:=by
    intro ev' T' b1 b12 b13 b14 b2 b4 b5 hT;exact hR _ _ ⟨b1,b12,b13,by rw[b14];simp,b2,b4,by rw[hsn];exact b5,by rw[hsn,hT]⟩
   have hst:(d.length=0/\(if d.length=0\/l.getD (d.length-1) 0≠n-1 then [n] else [])=[n])\/∃ k y,d.length=k+1/\l[k]?=some y/\(if d.length=0\/l.getD (d.length-1) 0≠n-1 then [n] else [])=if y=n-1 then [] else [n]:=by
    rcases qrv d.length with h|h
    . exact .inl ⟨h,by rw[if_pos (.inl h)]⟩
    . obtain⟨k,hk⟩:∃ k,d.length=k+1:=⟨d.length-1,by omega⟩;have hy:=qqo (l:=l) (i:=k) (by omega);refine .inr ⟨k,_,hk,hy,?_⟩;rw[hk,qqz,Nat.add_sub_cancel,hy];simp
   have hen:(d.length+1=l.length/\(if d.length+1=l.length\/l.getD (d.length+1) 0≠n+1 then [n] else [])=[n])\/∃ z,d.length+1<l.length/\l[d.length+1]?=some z/\(if d.length+1=l.length\/l.getD (d.length+1) 0≠n+1 then [n] else [])=if z=n+1 then [] else [n]:=by
    by_cases h:d.length+1=l.length
    . exact .inl ⟨h,by rw[if_pos (.inl h)]⟩
    . have hy:=qqo (l:=l) (i:=d.length+1) (by omega);refine .inr ⟨_,by omega,hy,?_⟩;rw[qqz,hy];simp[h]
   unfold qgo at fin;generalize hm:d.length=m at *;have hst2:∃ X,(if m=0\/l.getD (m-1) 0≠n-1 then [n] else [])=X/\(X=[]\/X=[n]):=⟨_,rfl,by split<;>simp⟩;have hen2:∃ X,(if m+1=l.length\/l.getD (m+1) 0≠n+1 then [n] else [])=X/\(X=[]\/X=[n]):=⟨_,rfl,by split<;>simp⟩;clear hsn hm hd;rcases hst with ⟨rfl,h2⟩|⟨k,y,rfl,hy,h2⟩<;>rcases hen with ⟨g1,g2⟩|⟨z,g1,hz,g2⟩
   . rw[h2,g2]at fin;have gl:(l.length:Int)-1=((0:Nat):Int):=(by omega);rw[gl]at hlw;simp[-getElem?_pos,gl,a1,a2,e1,e12,e13,e14,e2,e4,e5,hlt,hlt',hlt1,hx,hw,hwm,hwp,hlw,w0,w1,h0,hpos,qX,zu,qy];exact fin _ _ (by simp[e1]) (by simp[e12]) (by simp[e13]) (by simp) (by simp[e2]) (by simp[e4]) (by simp[e5]) (by simp)
   . rw[h2,g2]at fin;have gl:¬ (0:Int)=(l.length:Int)-1:=(by omega);have gz:(1:Int)<(l.length:Int):=(by omega);have gz':1<l.length:=(by omega);have hz':l[1]?=some z:=(by simpa using hz);by_cases hc:z=n+1
     . rw[if_pos hc]at fin;simp[-getElem?_pos,gl,gz,gz',hz',hc,a1,a2,e1,e12,e13,e14,e2,e4,e5,hlt,hlt',hlt1,hx,hw,hwm,hwp,hlw,w0,w1,h0,hpos,qX,zu,qy];exact fin _ _ (by simp[e1]) (by simp[e12]) (by simp[e13]) (by simp) (by simp[e2]) (by simp[e4]) (by simp[e5]) (by simp)
     . rw[if_neg hc]at fin;simp[-getElem?_pos,gl,gz,gz',hz',hc,a1,a2,e1,e12,e13,e14,e2,e4,e5,hlt,hlt',hlt1,hx,hw,hwm,hwp,hlw,w0,w1,h0,hpos,qX,zu,qy];exact fin _ _ (by simp[e1]) (by simp[e12]) (by simp[e13]) (by simp) (by simp[e2]) (by simp[e4]) (by simp[e5]) (by simp)
   . rw[h2,g2]at fin;have gl:(l.length:Int)-1=((k:Int)+1):=(by omega);have gk:((k+1:Nat):Int)-1=(k:Int):=(by omega);have gk':(k:Int)+1-1=(k:Int):=(by omega);have wk:=wr (n:=(k:Int)) (by omega) (by omega);have wk1:=wr (n:=(k:Int)+1) (by omega) (by omega);have wk2:=wr (n:=(k:Int)+1+1) (by omega) (by omega);have kl:(k:Int)<l.length:=(by omega);have kl':k<l.length:=(by omega);have kl2:(k:Int)+1<l.length:=(by omega);have k0:¬ (k:Int)+1=0:=(by omega);have kn:(0:Int)<=(k:Int)+1:=(by omega);have kt:((k:Int)+1).toNat=k+1:=(by omega);rw[gl]at hlw;by_cases hb:y=n-1
     . rw[if_pos hb]at fin;simp[-getElem?_pos,gl,gk,gk',wk,wk1,kl,kl',kl2,k0,kn,kt,hy,hb,a1,a2,e1,e12,e13,e14,e2,e4,e5,hlt,hlt',hlt1,hx,hw,hwm,hwp,hlw,w0,w1,h0,hpos,qX,zu,qy];exact fin _ _ (by simp[e1]) (by simp[e12]) (by simp[e13]) (by simp[wk2]) (by simp[e2]) (by simp[e4]) (by simp[e5]) (by simp)
     . rw[if_neg hb]at fin;simp[-getElem?_pos,gl,gk,gk',wk,wk1,kl,kl',kl2,k0,kn,kt,hy,hb,a1,a2,e1,e12,e13,e14,e2,e4,e5,hlt,hlt',hlt1,hx,hw,hwm,hwp,hlw,w0,w1,h0,hpos,qX,zu,qy];exact fin _ _ (by simp[e1]) (by simp[e12]) (by simp[e13]) (by simp[wk2]) (by simp[e2]) (by simp[e4]) (by simp[e5]) (by simp)
   . rw[h2,g2]at fin;have gl:¬ (k:Int)+1=(l.length:Int)-1:=(by omega);have gk:((k+1:Nat):Int)-1=(k:Int):=(by omega);have gk':(k:Int)+1-1=(k:Int):=(by omega);have wk:=wr (n:=(k:Int)) (by omega) (by omega);have wk1:=wr (n:=(k:Int)+1) (by omega) (by omega);have wk2:=wr (n:=(k:Int)+1+1) (by omega) (by omega);have kl:(k:Int)<l.length:=(by omega);have kl':k<l.length:=(by omega);have kl2:(k:Int)+1<l.length:=(by omega);have kl3:(k:Int)+1+1<l.length:=(by omega);have kl4:k+1+1<l.length:=(by omega);have k0:¬ (k:Int)+1=0:=(by omega);have kn:(0:Int)<=(k:Int)+1:=(by omega);have kn2:(0:Int)<=(k:Int)+1+1:=(by omega);have kt:((k:Int)+1).toNat=k+1:=(by omega);have kt2:((k:Int)+1+1).toNat=k+1+1:=(by omega);by_cases hb:y=n-1<;>by_cases hc:z=n+1
     . rw[if_pos hb,if_pos hc]at fin;simp[-getElem?_pos,gl,gk,gk',wk,wk1,wk2,kl,kl',kl2,kl3,kl4,k0,kn,kn2,kt,kt2,hy,hb,hc,hz,a1,a2,e1,e12,e13,e14,e2,e4,e5,hlt,hlt',hlt1,hx,hw,hwm,hwp,hlw,w0,w1,h0,hpos,qX,zu,qy];exact fin _ _ (by simp[e1]) (by simp[e12]) (by simp[e13]) (by simp[wk2]) (by simp[e2]) (by simp[e4]) (by simp[e5]) (by simp)
     . rw[if_pos hb,if_neg hc]at fin;simp[-getElem?_pos,gl,gk,gk',wk,wk1,wk2,kl,kl',kl2,kl3,kl4,k0,kn,kn2,kt,kt2,hy,hb,hc,hz,a1,a2,e1,e12,e13,e14,e2,e4,e5,hlt,hlt',hlt1,hx,hw,hwm,hwp,hlw,w0,w1,h0,hpos,qX,zu,qy];exact fin _ _ (by simp[e1]) (by simp[e12]) (by simp[e13]) (by simp[wk2]) (by simp[e2]) (by simp[e4]) (by simp[e5]) (by simp)
     . rw[if_neg hb,if_pos hc]at fin;simp[-getElem?_pos,gl,gk,gk',wk,wk1,wk2,kl,kl',kl2,kl3,kl4,k0,kn,kn2,kt,kt2,hy,hb,hc,hz,a1,a2,e1,e12,e13,e14,e2,e4,e5,hlt,hlt',hlt1,hx,hw,hwm,hwp,hlw,w0,w1,h0,hpos,qX,zu,qy];exact fin _ _ (by simp[e1]) (by simp[e12]) (by simp[e13]) (by simp[wk2]) (by simp[e2]) (by simp[e4]) (by simp[e5]) (by simp)
     . rw[if_neg hb,if_neg hc]at fin;simp[-getElem?_pos,gl,gk,gk',wk,wk1,wk2,kl,kl',kl2,kl3,kl4,k0,kn,kn2,kt,kt2,hy,hb,hc,hz,a1,a2,e1,e12,e13,e14,e2,e4,e5,hlt,hlt',hlt1,hx,hw,hwm,hwp,hlw,w0,w1,h0,hpos,qX,zu,qy];exact fin _ _ (by simp[e1]) (by simp[e12]) (by simp[e13]) (by simp[wk2]) (by simp[e2]) (by simp[e4]) (by simp[e5]) (by simp)
 . rintro ev ⟨H,T⟩ ⟨e1,e12,e13,e14,e2,e4,e5,hσ⟩;obtain⟨rfl,rfl⟩:=(St.mk.injEq _ _ _ _).mp hσ;have hB:qgB l l=zI (kv l):=(by rw[<- qmE];rfl);rw[hB]at e5 ⊢;have hne:kv l≠[]:=fun e=>by
    obtain⟨n,hn⟩:=qtz l h0;obtain⟨r,hr,_⟩:=(qdT n l).2 hn;rw[e]at hr;cases hr
   have hBne:zI (kv l)≠[]:=fun e=>by
    have h1:=vT (kv l);have h2:=qqB.2 hne;rw[e]at h1;simp at h1;omega
   have hlen:(zI (kv l)).length<=2000:=by
    have:=qeU l l;rw[hB]at this;omega
   have hres:=qhO s (kv l) hne;have hpn:vM (zI (kv l)).length=((kv l).length+15) / 16:=by
    rw[vT];unfold vM;omega
   generalize hRS:kv l=RS at *;generalize hU:ye s RS=U_ at *;have hch:=qmy (zI RS);have hfw:=fw190 GG ((zI RS).map JO) .none (by simp;omega);rw[W9 hBne]at e5;rw[Va hBne];simp[-getElem?_pos,e1,e12,e13,e14,e2,e4,e5,qX,zu,qy];refine qd.pure hch (by simp[wN]) (by simp) ?_;simp[-getElem?_pos];refine qbf (Yx _) (fun _=>True) _ (MkJ s RS) (by simp[Go.Abs.ev]) hfw (fun _ _ _=>trivial) ?_ ?_ ?_
   . exact⟨1,_,_,_,_,rfl,qls 0,fun _=>rfl,fun h=>absurd rfl h⟩
   . rintro i v ⟨H,T⟩ hi ⟨o,c1,c2,c3,t,hH,hnear,ho0,ho1⟩;dsimp only at hH;subst hH;have hik:i<vM ((zI RS).map JO).length:=by
      have:=(qql.1 hi).1;simpa using this
     have hv:v=.sl 4 ((zI ((RS.drop (16*i)).take 16)).map JO) .none:=by
      rw[qqI]at hi;obtain⟨k,hk,e⟩:=qqs.1 hi;obtain⟨_,hk⟩:=qql.1 hk;rw[List.getElem_range]at hk;subst hk;rw[<- e,qfH]
     subst hv;have hP:qpl s RS (i+1)=if i=0 then wE s ((RS.drop (16*i)).take 16) else orE (qpl s RS i) (wE s ((RS.drop (16*i)).take 16)):=rfl
     have hlp:((zI ((RS.drop (16*i)).take 16)).map JO).length<=32:=by
      rw[qqZ,vT,qqY];omega
     have hPne0:zI ((RS.drop (16*i)).take 16)≠[]:=fun e=>by
      have h1:=vT ((RS.drop (16*i)).take 16);rw[e,qqY,qrE]at h1;have h2:=hik;rw[qqZ,vT]at h2;unfold vM at h2;simp at h1;omega
     generalize (RS.drop (16*i)).take 16=P at *;have hni:=fun tok=>qlt s P tok
     have hPne:zI P≠[]:=hPne0;have hl1:1+(zI P).length<=549755813888:=(by rw[qqZ]at hlp;omega);have hPe:∀ n∈(zI P).map JO,n.all AV.atom=true:=(by simp);by_cases hi0:i=0
     . have ho:=ho0 hi0;subst ho;simp[-getElem?_pos,e2,e4,qX,zu,qy,qD,zg,hl1,hPne];refine⟨23,_,_,_,_,rfl,?_,fun h=>absurd h (by omega),fun _=>by omega⟩;rw[hP,if_pos hi0,hi0];exact hni _
     . have ho:=ho1 hi0;rw[if_neg hi0]at hP;simp[-getElem?_pos,-qO,qdp hnear.atoms,Kr,VZ,Qa,ho,e2,e4,qX,zu,qy,qD,zg,hl1,hPne];refine⟨20,_,_,_,_,rfl,?_,fun h=>absurd h (by omega),fun _=>by omega⟩;rw[hP];have hm:max i 1=i:=(by omega);exact qpi hnear ((hni _).mono (by omega))
   . rintro⟨H,T⟩ ⟨o,c1,c2,c3,t,hH,hnear,ho0,ho1⟩;dsimp only at hH;subst hH;have hvl:(List.map (fun k=>AV.sl 4 (KC (List.map JO (zI RS)) k) Tok.none) (List.range (vM (List.map JO (zI RS)).length))).length=(RS.length+15) / 16:=by
      rw[qqZ,qsI,qqZ,hpn]
     rw[hvl,hres]at hnear;simp[-getElem?_pos,-qO,qdp hnear.atoms,e2,e4];have hk7:(RS.length+15) / 16<=7:=(by omega);clear e1 e12 e13 e14 e2 e4 e5;generalize (RS.length+15) / 16=k at *;generalize [AV.int .i64 o,c1,c2,c3]=c at *;generalize (Blk.cells [AV.str s]::_:List Blk)=HH;by_cases h:qF (.agg c)=true
     . rw[qv h];have hn:qq c=true:=(by simpa[qF] using h);have:=hnear.fz HH k (qqw _);rw[Vy hn]at this;exact⟨h,by simp only[Leq];exact this.1⟩
     . have:=hnear.fz HH 7 hk7;have e:frz HH 8 (.agg c)=.agg (c.map (frz HH 7)):=by
        rw[frz,if_neg h]
       rw[e];exact⟨by simpa[qF] using this.2.1,by simp only[Leq];exact this.1⟩
end Go.Proofs.YtoibbcnfhhggnaaGreatDoor
end
