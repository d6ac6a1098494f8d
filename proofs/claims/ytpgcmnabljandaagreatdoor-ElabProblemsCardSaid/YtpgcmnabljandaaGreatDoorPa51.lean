/- A part of the proof. -/
import Derived.Test.YtpgcmnabljandaaGreatDoorPa50
import Derived.Test.YtpgcmnabljandaaGreatDoorRows
import Derived.ProofKit
import Derived.Stop.Joined
import Derived.SevenTiedAt
set_option linter.unusedVariables false
set_option linter.unusedSimpArgs false
set_option maxRecDepth 1000000
set_option maxHeartbeats 16000000
set_option linter.defProp false
section
namespace Go.Proofs.YtpgcmnabljandaaGreatDoor
open Go Go.Abs
section
attribute [local simp] acells fin zh ze pl1 plain pl2 AV.atom
attribute [-simp] qfG
attribute [local simp high] zO
attribute [local simp] z9 z8 zP jq zS zK zz jd zY jC
end
section
attribute [local simp] acells fin zh ze pl1 plain pl2 AV.atom
attribute [local simp high] zO
attribute [local simp] z9 z8 zP jq zS zK zz jd zY jC
end
section
attribute [local simp] acells fin zh ze pl1 plain pl2 AV.atom
attribute [local simp high] zO
attribute [local simp] z9 z8 zP jq zS zK zz jd zY jC
theorem qpy:∀ e,Wen e->PZ 36 [.agg (qz e),.agg (qz e)] (.bool true):=by
 refine Ex.ind fun e ih hwe=>?_
 refine Pure.vc qg Tryz.func36 rfl (by kernel_rfl) ?_;have hfa:=hwe.fits;simp only[qa e];simp[-acells];refine qC.intro (fun n ev O=>∃ i,i<=e.args.length/\n=e.args.length-i/\ev 2=.ptr 0 0/\ev 3=.ptr 1 0/\ev 5=.int .i64 i/\O=⟨[.cells (qz e),.cells (qz e)],[]⟩) e.args.length ⟨0,by simp,by simp,by simp,by simp,by simp,by simp[qa e]⟩ ?_;rintro n ev O ⟨i,hi,rfl,h2,h3,h5,rfl⟩
 cases hvi:e.args[i]? with
 | some a=>
  obtain⟨hc,hv'⟩:=qqV.1 hvi;have hm:=qqW hvi;have ih:=ih a hm (hwe.arg hm);simp[-acells,h2,h3,h5,hc,hv',qa e];refine qe.call ih (by simp) ?_;simp[-acells,h2,h3,h5];exact⟨_,by omega,i+1,by omega,rfl,wr (by omega) (by omega)⟩
 | none=>
  have hc:¬ i<e.args.length:=by simp at hvi;omega
  simp[-acells,h2,h3,h5,hc,qa e]
end
section
attribute [local simp] acells fin zh ze pl1 plain pl2 AV.atom
def vaE (c:UInt8):Ex:=.mk 2 0 [c] []
def ltE:Ex:=.mk 17 0 [] [vaE 97,vaE 98]
def eqE:Ex:=.mk 15 0 [] [vaE 98,.mk 1 3 [] []]
def pQ:Ask:=⟨[⟨[112,97,105,114],[],[⟨[97],2,0,1,0⟩,⟨[98],2,0,1,0⟩],[⟨[99],[.mk 1 ltE [] [] [] [] [] [] [],.mk 6 zEx [] [] [] [] [] [[97]] [[98]]]⟩]⟩],[112,97,105,114],[],[.mk 2 eqE [] [] [] [] [] [] []],[]⟩
def pP:Problem:=⟨[⟨[97],2,1,0⟩,⟨[98],2,1,0⟩],[ltE],[eqE],[],[[0],[1]]⟩
def bP:Problem:=⟨[],[],[],[],[[0]]⟩
theorem pP_vs:jB pP.vars=0:=by
 have h1:qh kv pP.vars=0:=by kernel_rfl
 have h2:pP.vars.any (fun v=>J9 pP.vars v.name)=false:=by
  have n1:yb ([97]:Str)=none:=ZP (by decide);have n2:yb ([98]:Str)=none:=ZP (by decide);simp[pP,J9,n1,n2]
 unfold jB;rw[if_neg (by decide),h1,if_neg (by simp),if_neg (by decide),h2,if_neg (by simp),if_neg (by decide)]
theorem pP_v:zT pP=0:=by
 have h2:qh (yx pP.vars) (pP.hard++pP.soft)=0:=by kernel_rfl
 have h3:wg pP.vars pP.dists=0:=by kernel_rfl
 have h4:yz pP.vars pP.groups:=by
  refine⟨by simp[pP],by simp[pP,zW],by simp[pP],fun i hi _=>?_⟩;have:i<2:=hi;have:i=0\/i=1:=by omega
  rcases this with rfl|rfl<;>simp[pP]
 unfold zT zU;rw[pP_vs,h2,h3,if_pos h4];rfl
theorem bP_v:zT bP=1:=by
 have h1:jB bP.vars=0:=by kernel_rfl
 have h2:qh (yx bP.vars) (bP.hard++bP.soft)=0:=by kernel_rfl
 have h3:wg bP.vars bP.dists=0:=by kernel_rfl
 have h4:¬ yz bP.vars bP.groups:=fun h=>by
  have:=h.2.1 0 (by simp[bP]);simp[bP,zW]at this
 unfold zT zU;rw[h1,h2,h3,if_neg h4];rfl
theorem qmK:Jy pQ=true:=by kernel_rfl
theorem pQ_b:Qr (qy pQ.src pQ.name) pQ.off pQ.more pQ.state=pP:=by kernel_rfl
theorem pQ_e:jm pQ=0:=by
 have:jm pQ=zT pP:=by kernel_rfl
 rw[this,pP_v]
theorem pQ_s:jP pQ=pP:=by
 unfold jP;rw[if_neg (by rw[pQ_e];simp),pQ_b]
theorem qql {x:It}(h1:x.items=[])(h2:x.els=[])(h:Hold1 x):yF x:=fun y hy=>by
 rw[qX,h1,h2]at hy;simp[zA]at hy;rw[hy];exact h
theorem qpO:HoldA pQ:=by
 have hz:Hold1 (.mk 6 zEx [] [] [] [] [] [[97]] [[98]]):=⟨by intro x hx;simp[It.expr,zEx,zb,Ex.args]at hx;subst hx;simp[Ex.args,Ex.name,Fits],by simp[It.name,Fits],by simp[It.index,Fits],by simp[It.ws,Fits],by simp[It.items,Fits],by simp[It.els,Fits],by simp[It.before,Fits],by simp[It.after,Fits],by simp[It.before,It.after,Fits]⟩;have hl:Hold1 (.mk 1 ltE [] [] [] [] [] [] []):=⟨by
  intro x hx;simp[It.expr,ltE,zb,Ex.args,jF]at hx;rcases hx with rfl|hx
  . simp[Ex.args,Ex.name,Fits]
  . simp[vaE,Ex.args]at hx;rcases hx with rfl|rfl<;>simp[Ex.args,Ex.name,Fits],by simp[It.name,Fits],by simp[It.index,Fits],by simp[It.ws,Fits],by simp[It.items,Fits],by simp[It.els,Fits],by simp[It.before,Fits],by simp[It.after,Fits],by simp[It.before,It.after,Fits]⟩
 have he:Hold1 (.mk 2 eqE [] [] [] [] [] [] []):=⟨by
  intro x hx;simp[It.expr,eqE,zb,Ex.args,jF]at hx;rcases hx with rfl|hx
  . simp[Ex.args,Ex.name,Fits]
  . simp[vaE,Ex.args]at hx;rcases hx with rfl|rfl<;>simp[Ex.args,Ex.name,Fits],by simp[It.name,Fits],by simp[It.index,Fits],by simp[It.ws,Fits],by simp[It.items,Fits],by simp[It.els,Fits],by simp[It.before,Fits],by simp[It.after,Fits],by simp[It.before,It.after,Fits]⟩
 refine⟨by simp[pQ,Fits],fun c hc=>?_,by simp[pQ,Fits],by simp[pQ,Fits],by simp[pQ],by simp[pQ,Fits],fun x hx=>?_,by simp[pQ,Fits],by simp[pQ]⟩
 . simp[pQ]at hc;subst hc;refine⟨by simp[Fits],by simp[Fits],by simp[Fits],by simp[Fits],by simp[Fits],fun b hb=>?_⟩;simp at hb;subst hb;refine⟨by simp[Fits],by simp[Fits],fun x hx=>?_⟩;simp at hx;rcases hx with rfl|rfl
   . exact qql rfl rfl hl
   . exact qql rfl rfl hz
 . simp[pQ]at hx;subst hx;exact qql rfl rfl he
theorem pQ_ok:AskOk pQ:=qlv qpO qmK
theorem qlL:VQ pP:=by
 have:=(qoL pQ_ok pQ_e).1;rw[pQ_s]at this;exact this
theorem bP_q:VQ bP:=⟨by simp[bP],by simp[bP],by simp[bP],by simp[bP],by simp[bP],by simp[bP,Fits],by simp[bP],by simp[bP,Fits],by simp[bP,Fits]⟩
theorem two40 (o:Int)(a b:Ex):PZ 40 [.int .i64 o,.agg (qz a),.agg (qz b)] (.agg (qz (.mk o 0 [] [a,b]))):=by
 refine Pure.k qg Tryz.func40 rfl (by kernel_rfl) ?_;simp[-acells,-fin,-ze,-zh,-pl1,-pl2,-plain,-AV.atom,-getElem?_pos,qa,Ex.op,Ex.n,Ex.name,Ex.args]
theorem qpe (s:Str):PZ 41 [.str s] (.agg (qz (.mk 2 0 s []))):=by
 refine Pure.k qg Tryz.func41 rfl (by kernel_rfl) ?_;simp[-acells,-fin,-ze,-zh,-pl1,-pl2,-plain,-AV.atom,-getElem?_pos,qa,Ex.op,Ex.n,Ex.name,Ex.args]
theorem num42 (n:Int):PZ 42 [.int .i64 n] (.agg (qz (.mk 1 n [] []))):=by
 refine Pure.k qg Tryz.func42 rfl (by kernel_rfl) ?_;simp[-acells,-fin,-ze,-zh,-pl1,-pl2,-plain,-AV.atom,-getElem?_pos,qa,Ex.op,Ex.n,Ex.name,Ex.args]
theorem pair39:PZ 39 [] (.sl 4 (pQ.src.map qn) .none):=by
 refine Pure.kO o0 true qg Tryz.func39 rfl (by kernel_rfl) ?_;have h1:=qpe [97];have h2:=qpe [98];have h3:=two40 17 (vaE 97) (vaE 98);simp only[qa,Ex.op,Ex.n,Ex.name,Ex.args,vaE,qqZ,qq9]at h1 h2 h3;simp[-acells,-fin,-ze,-zh,-pl1,-pl2,-plain,-AV.atom,-getElem?_pos];refine qd.call h1 (by simp) ?_;simp[-acells,-fin,-ze,-zh,-pl1,-pl2,-plain,-AV.atom,-getElem?_pos];refine qd.call h2 (by simp) ?_;simp[-acells,-fin,-ze,-zh,-pl1,-pl2,-plain,-AV.atom,-getElem?_pos];refine qd.call h3 (by simp) ?_;simp[-acells,-fin,-ze,-zh,-pl1,-pl2,-plain,-AV.atom,-getElem?_pos];rw[qP (by simp)];refine⟨by simp,?_⟩;simp[pQ,Leq,zt,yL,ql,qa,It.kind,It.expr,It.name,It.index,It.ws,It.items,It.els,It.before,It.after,ltE,zEx,vaE,Ex.op,Ex.n,Ex.name,Ex.args,AV.atom]
theorem pP_h1:Wl pP [1,2] ltE=true:=by
 unfold Wl;rw[pP_v]
 kernel_rfl
theorem pP_h2:Wl pP [2,2] ltE=false:=by
 unfold Wl;rw[pP_v]
 kernel_rfl
theorem pP_b:qph pP.vars (yN pP)=4:=by
 unfold yN;rw[pP_v]
 kernel_rfl
theorem V0:Wen ltE/\hgt ltE<=1000/\(pre ltE).length<=100000:=qlL.exprs ltE (by simp[pP])
theorem qfL:PZ 11 [] (.bool true):=by
 refine Pure.k qg Tryz.func11 rfl (by kernel_rfl) ?_;have h1:=qpe [98];have h2:=num42 3;have h3:=two40 15 (vaE 98) (.mk 1 3 [] []);have hp:=qcz pQ pQ_ok;rw[pQ_s,pQ_e]at hp;have hb:=bits24 pP ⟨by simp[pP],qlL.names,by simp[pP],by simp[pP],qlL.exprs,qlL.dists,qlL.weights,qlL.groups,qlL.group,by simp[pP]⟩;rw[pP_b]at hb;have hv:=Ja pP qlL;rw[pP_v]at hv;have hv2:=Ja bP bP_q;rw[bP_v]at hv2;have g1:=qgx pP [1,2] ltE qlL (by simp[Fits]) V0.1 V0.2.1 V0.2.2;have g2:=qgx pP [2,2] ltE qlL (by simp[Fits]) V0.1 V0.2.1 V0.2.2;rw[pP_h1]at g1;rw[pP_h2]at g2;simp only[qa,Ex.op,Ex.n,Ex.name,Ex.args,vaE,qqZ,qq9]at h1 h2 h3;simp only[yM,pP,bP,qqZ,qq9,qo,qa,ltE,eqE,vaE,Ex.op,Ex.n,Ex.name,Ex.args,zZ,qY]at hp hb hv hv2 g1 g2;simp[-acells,-fin,-ze,-zh,-pl1,-pl2,-plain,-AV.atom,-getElem?_pos];refine qd.call pair39 (by simp) ?_;simp[-acells,-fin,-ze,-zh,-pl1,-pl2,-plain,-AV.atom,-getElem?_pos];refine qd.call h1 (by simp) ?_;simp[-acells,-fin,-ze,-zh,-pl1,-pl2,-plain,-AV.atom,-getElem?_pos];refine qd.call h2 (by simp) ?_;simp[-acells,-fin,-ze,-zh,-pl1,-pl2,-plain,-AV.atom,-getElem?_pos];refine qd.call h3 (by simp) ?_;simp[-acells,-fin,-ze,-zh,-pl1,-pl2,-plain,-AV.atom,-getElem?_pos];refine qd.less hp (by simp[ql,qa]) ?_ ?_
 . simp[pQ,Leq,zt,yL,ql,qa,It.kind,It.expr,It.name,It.index,It.ws,It.items,It.els,It.before,It.after,eqE,zEx,vaE,Ex.op,Ex.n,Ex.name,Ex.args,AV.atom]
 simp[-acells,-fin,-ze,-zh,-pl1,-pl2,-plain,-AV.atom,-getElem?_pos];refine qd.call hb (by simp) ?_;simp[-acells,-fin,-ze,-zh,-pl1,-pl2,-plain,-AV.atom,-getElem?_pos];refine qd.call hv (by simp) ?_;simp[-acells,-fin,-ze,-zh,-pl1,-pl2,-plain,-AV.atom,-getElem?_pos];refine qd.less g1 (by simp) (by simp[Leq,zt]) ?_;simp[-acells,-fin,-ze,-zh,-pl1,-pl2,-plain,-AV.atom,-getElem?_pos];refine qd.less g2 (by simp) (by simp[Leq,zt]) ?_;simp[-acells,-fin,-ze,-zh,-pl1,-pl2,-plain,-AV.atom,-getElem?_pos];refine qd.less hv2 (by simp) (by simp[Leq,zt,yL]) ?_;simp[-acells,-fin,-ze,-zh,-pl1,-pl2,-plain,-AV.atom,-getElem?_pos]
end
theorem eq155 (a:Weight):Vn (Dof Zp) 155 (zs a) (zs a)=some true:=by
 have hr:List.range 4=[0,1,2,3]:=rfl;simp[Vn,qif,vL,zw,km,yt,vB,hr]
theorem eq65 (a:Var):Vn (Dof Zp) 65 (qo a) (qo a)=some true:=by
 have hr:List.range 4=[0,1,2,3]:=rfl;simp[Vn,qif,vL,zw,km,yt,vB,hr]
theorem KD (l:List Ex)(hl:l.length<=1000000)(hw:∀ e∈l,Wen e):PZ 77 [.sl 4 (l.map qz) .none,.sl 4 (l.map qz) .none] (.bool true):=by
 refine Pure.k qg Tryz.func77 rfl (by kernel_rfl) ?_;simp[-getElem?_pos];refine qv.listR l (fun d ev O=>ev 0=.sl 4 (l.map qz) .none/\ev 1=.sl 4 (l.map qz) .none/\ev 5=I_ d.length/\∃ H,O=⟨H,[]⟩) ?_ ?_ ?_
 . exact⟨by simp,by simp,by simp,_,rfl⟩
 . rintro d e rest ev O R hR hd hx hlt ⟨h0,h1,h5,H,rfl⟩;have hdw:IntKind.i64.wrap ((d.length:Int)+1)=(d.length+1:Nat):=(by rw[wr (by omega) (by omega)];omega);have hs:=qpy e (hw e (qqW hx));simp only[qa e]at hs;simp[-getElem?_pos,h0,h1,h5,hlt,hx,qa e];refine qd.call hs (by simp) ?_;simp[-getElem?_pos,h5,hdw];exact hR _ _ ⟨h0,h1,by simp,_,rfl⟩
 . rintro ev O ⟨h0,h1,h5,H,rfl⟩;simp[-getElem?_pos,h0,h5]
theorem qer (l:List Dist)(hl:Fits l)(hw:∀ d∈l,Fits d.weights):PZ 78 [.sl 2 (l.map qG) .none,.sl 2 (l.map qG) .none] (.bool true):=by
 refine Pure.k qg Tryz.func78 rfl (by kernel_rfl) ?_;simp[-getElem?_pos];refine qv.listR l (fun d ev O=>ev 0=.sl 2 (l.map qG) .none/\ev 1=.sl 2 (l.map qG) .none/\ev 5=I_ d.length/\∃ H,O=⟨H,[]⟩) ?_ ?_ ?_
 . exact⟨by simp,by simp,by simp,_,rfl⟩
 . rintro d e rest ev O R hR hd hx hlt ⟨h0,h1,h5,H,rfl⟩;have hdw:IntKind.i64.wrap ((d.length:Int)+1)=(d.length+1:Nat):=(by rw[wr (by unfold Fits at hl;omega) (by unfold Fits at hl;omega)];omega);have hwf:=hw e (qqW hx);simp[-getElem?_pos,h0,h1,h5,hlt,hx];refine qv.listR e.weights (fun g ev O=>ev 0=.sl 2 (l.map qG) .none/\ev 1=.sl 2 (l.map qG) .none/\ev 5=I_ d.length/\ev 6=I_ g.length/\∃ H,O=⟨H,[]⟩) ?_ ?_ ?_
   . exact⟨h0,h1,h5,by simp,_,rfl⟩
   . clear h0 h1 h5;rintro g w rest2 ev O R2 hR2 hg hxw hltw ⟨h0,h1,h5,h6,H2,rfl⟩;have hgw:IntKind.i64.wrap ((g.length:Int)+1)=(g.length+1:Nat):=(by rw[wr (by unfold Fits at hwf;omega) (by unfold Fits at hwf;omega)];omega);have hq:=eq155 w;simp only[zs]at hq;simp[-getElem?_pos,h0,h1,h5,h6,hx,hltw,hxw,hq,hgw];exact hR2 _ _ ⟨h0,h1,h5,by simp,_,rfl⟩
   . clear h0 h1 h5;rintro ev O ⟨h0,h1,h5,h6,H2,rfl⟩;simp[-getElem?_pos,h0,h5,h6,hx,hdw];exact hR _ _ ⟨h0,h1,by simp,_,rfl⟩
 . rintro ev O ⟨h0,h1,h5,H,rfl⟩;simp[-getElem?_pos,h0,h5]
theorem same21 (p:Problem)(h:VQ p):PZ 21 [.agg (yM p),.agg (yM p)] (.bool true):=by
 refine Pure.k qg Tryz.func21 rfl (by kernel_rfl) ?_;have hh:=KD p.hard (by have:=h.hard;omega) fun e he=>(h.exprs e (qrD _ he)).1
 have hs:=KD p.soft (by have:=h.soft;omega) fun e he=>(h.exprs e (qrK _ he)).1
 have hd:=qer p.dists h.dists h.weights;have hvl:=h.vars;have hgl:=h.groups;have hgg:=h.group;clear h;obtain⟨V,Hd,Sf,D,G⟩:=p;simp only at *;simp[-getElem?_pos];refine qd.call hh (by simp) ?_;simp[-getElem?_pos];refine qd.call hs (by simp) ?_;simp[-getElem?_pos];refine qd.call hd (by simp) ?_;simp[-getElem?_pos];clear hh hs hd;refine qv.listR V (fun d ev O=>ev 2=.ptr 0 0/\ev 3=.ptr 1 0/\ev 5=I_ d.length/\O.H[0]?=some (.cells (yM ⟨V,Hd,Sf,D,G⟩))/\O.H[1]?=some (.cells (yM ⟨V,Hd,Sf,D,G⟩))) ?_ ?_ ?_
 . exact⟨by simp,by simp,by simp,by simp,by simp⟩
 . rintro d v rest ev O R hR hd hx hlt ⟨h2,h3,h5,b0,b1⟩;have hdw:IntKind.i64.wrap ((d.length:Int)+1)=(d.length+1:Nat):=(by rw[wr (by omega) (by omega)];omega);have hq:=eq65 v;simp only[qo]at hq;simp only[yM]at b0 b1;simp[-getElem?_pos,h2,h3,h5,b0,b1,hlt,hx,hq,hdw];exact hR _ _ ⟨h2,h3,by simp,b0,b1⟩
 . rintro ev O ⟨h2,h3,h5,b0,b1⟩;simp only[yM]at b0 b1;simp[-getElem?_pos,h2,h5,b0];refine qv.listR G (fun d ev O=>ev 2=.ptr 0 0/\ev 3=.ptr 1 0/\ev 6=I_ d.length/\O.H[0]?=some (.cells (yM ⟨V,Hd,Sf,D,G⟩))/\O.H[1]?=some (.cells (yM ⟨V,Hd,Sf,D,G⟩))) ?_ ?_ ?_
   . exact⟨h2,h3,by simp,b0,b1⟩
   . clear h2 h3 h5 b0 b1;rintro d g rest ev O R hR hd hx hlt ⟨h2,h3,h6,b0,b1⟩;have hdw:IntKind.i64.wrap ((d.length:Int)+1)=(d.length+1:Nat):=(by rw[wr (by unfold Fits at hgl;omega) (by unfold Fits at hgl;omega)];omega);have hi:=qhy g g (hgg g (qqW hx));rw[decide_eq_true rfl]at hi;simp only[yM]at b0 b1;simp[-getElem?_pos,h2,h3,h6,b0,b1,hlt,hx,zZ];refine qd.call hi (by simp) ?_;simp[-getElem?_pos,h6,hdw];exact hR _ _ ⟨h2,h3,by simp,b0,b1⟩
   . clear h2 h3 h5 b0 b1;rintro ev O ⟨h2,h3,h6,b0,b1⟩;simp only[yM]at b0 b1;simp[-getElem?_pos,h2,h6,b0]
theorem qlQ:VQ yC:=⟨by simp[yC],by simp[yC],by simp[yC],by simp[yC],by simp[yC],by simp[yC,Fits],by simp[yC],by simp[yC,Fits],by simp[yC]⟩
theorem WC:∀ (r:Nat) (l:List It),wY r l=true->∀ x∈l,jG x<=r
 | 0,l,h,x,hx=>by simp[wY]at h
 | r+1,l,h,x,hx=>by
  simp only[wY,qq1,decide_eq_true_eq,qq7]at h;obtain⟨⟨_,h5⟩,h6⟩:=h.2 x hx;have hmax:∀ m:List It,(∀ y∈m,jG y<=r)->wC m<=r:=fun m hm=>by
   induction m with
   | nil=>simp[wC]
   | cons a t ih=>
    have h1:=hm a (by simp);have h2:=ih fun y hy=>hm y (by simp[hy])
    simp only[wC];omega
  have g1:=hmax x.items fun y hy=>WC r x.items h5 y hy
  have g2:=hmax x.els fun y hy=>WC r x.els h6 y hy
  rw[j6];omega
theorem ask_r {q:Ask}(h:HoldA q)(hl:Jy q=true):AskR q:=by
 refine⟨qlv h hl,fun c hc=>?_,fun l hlm x hx=>?_⟩
 . have:=h.classes c hc;exact⟨this.name,this.parent,this.fnames,fun b hb=>(this.bnames b hb).1⟩
 . have hfew:wY 5 l=true:=by
    unfold Jy at hl;simp only[qq1,decide_eq_true_eq,qq7]at hl;obtain⟨⟨⟨⟨h1,h2⟩,h3⟩,h4⟩,h5⟩:=hl;unfold zr at hlm;rcases qre.1 hlm with hlm|hlm
    . obtain⟨b,hb2,rfl⟩:=qq3.1 hlm;obtain⟨c,hc,hx⟩:=ZC (qrz.1 hb2).1;have:=h5 c hc;unfold okC at this;simp only[qq1,decide_eq_true_eq,qq7]at this;exact this.2 b hx
    . simp at hlm;subst hlm;exact h4
   have:=WC 5 l hfew x hx;omega
theorem law4 (q:Ask)(h:HoldA q):PZ 4 [.agg (JJ q)] (.bool true):=by
 refine Pure.k qg Tryz.func4 rfl (by kernel_rfl) ?_;have hl:=qp8 q h;simp only[JJ]at hl;simp[-getElem?_pos];refine qd.call hl (by simp) ?_
 cases hlt:Jy q with
 | false=>
  simp[-getElem?_pos];refine qd.call qfL (by simp) ?_;simp[-getElem?_pos]
 | true=>
  have ha:=qlv h hlt;have hp:=qcz q ha;have hr:=qjO q (ask_r h hlt);have hvq:VQ (jP q):=by
   by_cases he:jm q=0
   . exact (qoL ha he).1
   . have:jP q=if jm q≠0 then yC else Qr (qy q.src q.name) q.off q.more q.state:=rfl
     rw[this,if_pos he];exact qlQ
  have hs:=same21 _ hvq;generalize jP q=p at *;generalize jm q=e at *;simp only[yM]at hp hr hs;simp[-getElem?_pos];refine qd.call hp (by simp) ?_;simp[-getElem?_pos];refine qd.call hr (by simp) ?_;simp[-getElem?_pos];refine qd.call hs (by simp) ?_;simp[-getElem?_pos];refine qd.call qfL (by simp) ?_;simp[-getElem?_pos]
end Go.Proofs.YtpgcmnabljandaaGreatDoor
end
section
namespace Go.Proofs.YtpgcmnabljandaaGreatDoor
open Go Go.Abs Go.ChangeShapes Go.WideShapes Go.ChangeAt Go.RowKit
section
attribute [local simp] acells fin zh ze pl1 plain pl2 AV.atom
theorem qbL {H:Type}{enc:TypeId×Value->H}{W W':World}{v:Value}{d:DataW H}{ps:List MemPlace}{sp:Nat->Bool}(h:DataW.Trod enc Tryz.prog W 0 (fun _=>true) true 27 v d ps)(hb:Go.RowKit.Below W.heap.size W W')(hlt:∀ x∈ps,x.block<W.heap.size)(hs:∀ p∈ps,sp p.block=true) :
 DataW.Trod enc Tryz.prog W' 0 sp true 27 v d ps :=
 WideElems.Trod_stays qeV (by kernel_rfl) (of_decide_eq_true (by kernel_rfl)) h (fun x hx=>hb.same (hlt x hx)) hs
theorem qp9 (os:Os)(started:os.Started)(H:Type)(enc:TypeId×Value->H) :
 ReturnsInHanded {} Tryz.checked os 4 .any (fun w args=>(Rows.elabProblemsSpec.pre enc Tryz.prog Tryz.f4 [] false w args/\laidMetH Tryz.prog qkp w)/\sizedMet enc Tryz.prog Tryz.f4 (OpenSpec.ofChange Rows.elabProblemsSpec) false w args)
  (Rows.elabProblemsSpec.post enc Tryz.prog Tryz.f4 false true false false):=by
 refine returnsInHanded_of_change_and (C:=Tryz.checked) (X:=fun w _=>laidMetH Tryz.prog qkp w) (fun _ _ _ hh h=>h.of_heap hh) qpP started (by kernel_rfl) Tryz.func4
  (ChangeSpec.witness_shaped (enc:=enc) (C:=Tryz.checked) (os:=os) (X:=fun w _=>laidMetH Tryz.prog qkp w) false (World.doorLaid Tryz.prog 400 os) #[.agg #[.slice none 0 0,.string ⟨#[]⟩,.slice none 0 0,.slice none 0 0,.slice none 0 0]] 8 rfl (World.shaped_of_RefB (by kernel_rfl) (by kernel_rfl)) (by kernel_rfl) (by kernel_rfl) (by kernel_rfl) (qnP os _)) ?_
 intro W base args ds gs before hval0 hW _ _ hL _;have hval:∀ (j:Nat) t v,Tryz.f4.params[j]?=some t->args[j]?=some v->Value.okWide Tryz.prog W .any base t v:=hval0;have hW':=hW;obtain⟨p,q,hA0,hV,rfl,hfz,hnd⟩:=hW;have hA:DataW.TrodAll enc Tryz.prog W 0 (fun _=>true) true Tryz.f4.params.toList args.toList ds p:=hA0;rw[Tryz.params4]at hA hval;obtain⟨v0,d0,rfl,rfl,h0⟩:=trodAll_one hA;obtain⟨rfl,rfl⟩:=trodVars_none hV;have hv0:=hval 0 27 v0 rfl rfl;unfold Value.okWide at hv0;rw[Tryz.underlying27]at hv0;obtain⟨cs0,rfl,_,_⟩:=hv0;have h0':=h0;obtain⟨fuel0,hf0⟩:=h0;obtain⟨x0,hrel0,hg0⟩:=rdAsk hf0;have hpure:=law4 x0 hg0;have hglob:∀ g,qj (KW W) (GG g) (.pointer (some ⟨g,0,none⟩)):=by
  intro g
  cases g with
  | zero=>exact qpY hL
  | succ g=>simp only[GG,qj]
 have hargs:qk (KW W) [.agg (JJ x0)] (#[Value.agg cs0]:Array Value).toList:=by
  simp only[qk];have g0:qj (KW W) (.agg (JJ x0)) (Value.agg cs0):=by
   unfold qj;exact⟨cs0,rfl,hrel0⟩
  exact⟨_,_,rfl,g0,rfl⟩
 refine (hpure.2 W (qet W) #[Value.agg cs0] hglob (fun _ _ _ e=>e) hargs).mono ?_;rintro e W' ⟨v,ro',rfl,hb,_,_,_,hv⟩;have hv1:v=.bool true:=by simpa only[qj] using hv
 subst hv1;have hW2:=hW';simp only[qrl]at hW2;have hlt:=fun x hx=>hW2.lt x hx
 refine⟨_,rfl,[d0],[],p,[],p,[],hW2,?_,?_,?_,hb.frame _,fun h=>by cases h⟩
 . exact trodAll_mk1 (shut_bool Tryz.underlying4 true)
 . exact trodAll_mk1 (qbL h0' hb (fun x hx=>hlt x (hx)) (fun x hx=>by simpa using hlt x (hx)))
 . rfl
end
end Go.Proofs.YtpgcmnabljandaaGreatDoor
end
section
namespace Go.Proofs.YtpgcmnabljandaaGreatDoor
open Go
theorem fn4 : Tryz.prog.funcNamed "testbench/testbenchlaw14.ElabProblems" = some 4 := by kernel_rfl
theorem inst4:Tryz.f4.isInstance Tryz.prog Rows.elabProblemsRow.origin Rows.elabProblemsRow.targs:=of_decide_eq_true (by kernel_rfl)
theorem wrap4:Tryz.f4.isWrapper Tryz.prog Rows.elabProblemsRow.wrapper Rows.elabProblemsRow.mainSum:=by unfold Func.isWrapper;first | (rw[if_pos (by decide +kernel)];kernel_rfl) | (rw[if_neg (by decide +kernel)];exact⟨rfl,rfl⟩)
end Go.Proofs.YtpgcmnabljandaaGreatDoor
end
