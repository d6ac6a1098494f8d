import Derived.Test.YtfmdnopgncbmoaaGreatDoorPs02
set_option linter.all false
set_option linter.defProp false
namespace Go.Abs
open Go Go.RowKit
def frz(H:List Blk):Nat->AV->AV
 |0,v=>if zb v then v else .any
 | n+1,v=>if zb v then v else match v with
  | .ptr b off=>match H[b]? with
   |some (.cells c)=>.rptr ((c.drop off).map (frz H n))
   |_=>.any
  | .ms b off len sz=>match H[b]? with
   |some (.cells c)=>if off+len*sz<=c.length/\((vg sz len (c.drop off)).map (·.map (frz H n))).all (·.all AV.atom)=true then .sl sz ((vg sz len (c.drop off)).map (·.map (frz H n))) .none else .any
   |_=>.any
  |.rptr c=>.rptr (c.map (frz H n))
  |.sl sz rows _=>if(rows.map (·.map (frz H n))).all (·.all AV.atom)=true then .sl sz (rows.map (·.map (frz H n))) .none else .any
  |.fn f a b=>.fn f (a.map (frz H n)) (b.map (frz H n))
  |.agg c=>.agg (c.map (frz H n))
  |.tup c=>.tup (c.map (frz H n))
  |_=>.any
section
variable {P:Program}{G:Nat->AV}{w0:World}{ro0:Nat->Nat->Option Value}{K:Kn}{U:St}{w w':World}
def qm.mapRel{K K'}(hro:∀b o v,K.ro b o=some v->K'.ro b o=some v){f}(hf:∀a v,qg K a v->qg K' (f a) v):∀(c){B off:Nat},qm K B off c->qm K' B off (c.map f)
 |[],_,_,_=>by simp[qm]
 | a::r,B,off,h=>by
  simp only[qm,qyR]at h⊢;obtain⟨⟨v,h1,h2⟩,h3⟩:=h;exact⟨⟨v,hro _ _ _ h1,hf a v h2⟩,qm.mapRel hro hf r h3⟩
def qI.mapRel{K K'}(hro:∀b o v,K.ro b o=some v->K'.ro b o=some v){f}(hf:∀a v,qg K a v->qg K' (f a) v):∀(c){B off sz:Nat},(c.map (·.map f)).all (·.all AV.atom)=true->qI K B off sz c->qI K' B off sz (c.map (·.map f))
 |[],_,_,_,_,_=>by simp[qI]
 | a::r,B,off,sz,ha,h=>by
  simp only[qI,qyR,qAh,qyJ]at h ha⊢;obtain⟨⟨h1,h2,h3⟩,h4⟩:=h;exact⟨⟨by simpa using h1,ha.1,qm.mapRel hro hf a h3⟩,qI.mapRel hro hf r ha.2 h4⟩
def qfG(w:World):Nat->Nat->Option Value:=fun b o=>w.cell? ⟨b,o,none⟩
def qiH(h:WRel G w0 ro0 K U w){ro'}(hro:∀b o v,K.ro b o=some v->ro' b o=some v)(hnew:∀B o v,w0.heap.size<=B->K.ro B o=none->w.cell? ⟨B,o,none⟩=some v->ro' B o=some v):
 ∀(n){a:AV}{v:Value},qg K a v->qg (K0 ro') (frz U.H n a) v:=by
 have base:∀{a:AV} {v:Value},zb a=true->qg K a v->qg (K0 ro') a v:=fun hn hv=>(qg.toK0 _ hn hv).mono (qe2 hro)
 intro n
 induction n with
 | zero=>
  intro a v hv;unfold frz;split
  . rename_i hn;exact base hn hv
  simp[qg]
 | succ n ih=>
  intro a v hv;unfold frz;split
  . rename_i hn;exact base hn hv
  cases a with
  | ptr b off=>
   simp only;split
   . rename_i c hb;simp only[qg]at hv⊢;obtain⟨B,hm,rfl⟩:=hv;obtain⟨B',g1,g2,g3,⟨cs,el,g4,g5,g6,g7⟩,g8⟩:=h.blk b _ hb;rw[hm]at g1;cases g1;refine⟨B,off,rfl,qDe B _ _ fun i x e=>?_⟩;rw[qy7,qyM]at e;obtain⟨y,e1,rfl⟩:=e;rw[qzG]at e1;obtain⟨u,u1,u2⟩:=g7 _ _ e1;refine⟨u,hnew _ _ _ g2 (g8 _) ?_,ih u2⟩;simp only[World.cell?,g4];exact u1
   simp[qg]
  | ms b off len sz=>
   simp only;split
   . rename_i c hb;split
     . rename_i hl;obtain⟨hl,hat⟩:=hl;simp only[qg]at hv⊢;obtain⟨B,cap,hm,rfl,h1,h2⟩:=hv;obtain⟨B',g1,g2,g3,⟨cs,el,g4,g5,g6,g7⟩,g8⟩:=h.blk b _ hb;rw[hm]at g1;cases g1;obtain⟨k1,k2⟩:=ZV sz len (c.drop off) (by simp;omega);refine .inr ⟨B,off,cap,by simp[k1],by simpa[k1] using h1,qDf B sz _ off fun i r e=>?_,trivial⟩;have hatr:=qyP.1 hat r (qyG e);rw[qy7,qyM]at e;obtain⟨r0,e0,rfl⟩:=e;obtain⟨e1,e2⟩:=k2 i r0 e0;have hmul:(i+1)*sz<=len*sz:=qzx _ (by omega);rw[qzr,qBo]at hmul;refine⟨by rw[e1];simp;omega,hatr,qDe B _ _ fun j x ex=>?_⟩;rw[qy7,qyM]at ex;obtain⟨y,ey,rfl⟩:=ex;rw[e1,qzD]at ey;split at ey
       . rw[qzG,qzG]at ey;obtain⟨u,u1,u2⟩:=g7 _ _ ey;refine⟨u,hnew _ _ _ g2 (g8 _) ?_,ih u2⟩;simp only[World.cell?,g4];simpa[qAR] using u1
       cases ey
     simp[qg]
   simp[qg]
  | rptr c=>
   simp only[qg]at hv⊢;obtain⟨B,off,h1,h2⟩:=hv;exact⟨B,off,h1,qm.mapRel hro (fun a v=>ih) c h2⟩
  | sl sz rows tok=>
   simp only;split
   . rename_i hat;simp only[qg]at hv⊢;rcases hv with⟨h1,h2,h3⟩|⟨B,off,cap,h1,h2,h3,h4⟩
     . subst h2;obtain⟨a0,h1,_⟩:=h1;exact .inl ⟨⟨a0,h1,.inr trivial⟩,rfl,trivial⟩
     exact .inr ⟨B,off,cap,by simpa using h1,by simpa using h2,qI.mapRel hro (fun a v=>ih) rows hat h3,trivial⟩
   simp[qg]
  | fn f a b=>
   simp only[qg]at hv⊢;obtain⟨va,vb,h1,h2,h3⟩:=hv;exact⟨va,vb,h1,qCF (fun a v=>ih) a h2,qCF (fun a v=>ih) b h3⟩
  | agg c=>
   simp only[qg]at hv⊢;obtain⟨vs,h1,h2⟩:=hv;exact⟨vs,h1,qCF (fun a v=>ih) c h2⟩
  | tup c=>
   simp only[qg]at hv⊢;obtain⟨vs,h1,h2⟩:=hv;exact⟨vs,h1,qCF (fun a v=>ih) c h2⟩
  |_=>simp[qg]
def qp4(h:WRel G w0 ro0 K U w)(n){a v}(hv:qg K a v):qg (K0 (qfG w)) (frz U.H n a) v :=
 qiH h (ro':=qfG w) (fun b o v e=>h.ro b o v e) (fun _ _ _ _ _ e=>e) n hv
def qiI(h:WRel G w0 ro0 K U w)(n){a v}(hv:qg K a v):qg (K0 (vA w0 w K.ro)) (frz U.H n a) v :=
 qiH h (ro':=vA w0 w K.ro) (fun b o v e=>JJ _ _ _ _ _ _ e) (fun B o v hb hr e=>by simp only[vA,hr];rwa[if_pos hb]) n hv
def qqb:AV->Bool
 |.bool _|.int ..|.str _|.nilp|.nilm|.nilf=>true
 |.sl _ rows tok=>rows.isEmpty&&(match tok with|.chain .. =>false|_=>true)
 |_=>false
def flat:AV->Bool
 |.agg c=>c.all qqb
 |.tup c=>c.all qqb
 |v=>qqb v
def qgt:AV->Bool
 |.bool _|.int ..|.str _|.nilp|.nilm|.nilf=>true
 |_=>false
def qrt:AV->Bool
 |.agg c=>c.all qgt
 |.tup c=>c.all qgt
 |v=>qgt v
def qbW{K K' a v}(hf:qgt a=true)(h:qg K a v):qg K' a v:=by
 cases a<;>simp only[qgt]at hf<;>first|(cases hf;done)|simpa[qg] using h
def Kk{K K'}:∀(l){vs:List Value},l.all qgt=true->qh K l vs->qh K' l vs
 |[],_,_,h=>by simpa[qh] using h
 | a::r,_,hf,h=>by
  simp only[qh,qAh,qyJ]at h hf⊢;obtain⟨v,vr,h1,h2,h3⟩:=h;exact⟨v,vr,h1,qbW hf.1 h2,Kk r hf.2 h3⟩
def qmW{K K' a v}(hf:qrt a=true)(h:qg K a v):qg K' a v:=by
 unfold qrt at hf;split at hf
 . simp only[qg]at h⊢;obtain⟨vs,h1,h2⟩:=h;exact⟨vs,h1,Kk _ hf h2⟩
 . simp only[qg]at h⊢;obtain⟨vs,h1,h2⟩:=h;exact⟨vs,h1,Kk _ hf h2⟩
 exact qbW hf h
def Qk(P:Program)(G:Nat->AV)(g:FuncId)(args:List AV)(U:St)(r:AV):Prop :=
 (qx (args.map plain)=true/\Pure P G g (args.map plain) r)\/(qrt r=true/\Pure P G g (args.map (frz U.H 8)) r)
def WRel.keep(hw:WRel G w0 ro0 K U w){ro'}(hb:Below w.heap.size w w')(h1:∀b o v,K.ro b o=some v->ro' b o=some v)(h2:∀b o v,ro' b o=some v->w'.cell? ⟨b,o,none⟩=some v)
 (h3:∀b o v,ro' b o=some v->b<w.heap.size->K.ro b o=some v):K.le {K with ro:=ro'}/\WRel G w0 ro0 {K with ro:=ro'} U w':=by
 have hle:K.le {K with ro:=ro'}:=⟨h1,fun _ _ e=>e,qyQ _,fun t C _ e=>⟨C,e,.inl rfl⟩,fun _ _ _=>rfl,fun _ _ e=>e,fun _ _ e=>e⟩;have hsz:=hw.size_le;refine⟨hle,hw.below.trans (hb.mono hsz),fun g=>(hw.glob g).mono (Z7 hle),h2,fun b o v e hlt=>hw.new b o v (h3 b o v e (by omega)) hlt,?_,hw.inj,hw.mlt,?_,hw.chd,hw.chinj,hw.nch,fun i B cs el fr e1 e2=>by
  rw[hb.block B (hw.m_lt e1).1]at e2;exact hw.bsz i B cs el fr e1 e2,fun B x e=>by
  obtain⟨g1,g2,g3,g4⟩:=hw.fx B x e;exact⟨by rw[hb.block B (qzv.1 g1).1];exact g1,g2,g3,g4⟩,hw.rwl⟩
 . intro i b e;obtain⟨B,a1,a2,a3,a4,a5⟩:=hw.blk i b e;refine⟨B,a1,a2,qyV a3 hb.size,by rw[hb.block B a3];exact a4.mono hle,fun o=>?_⟩
   cases hr:ro' B o with
   |none=>exact hr
   |some u=>have:=h3 B o u hr a3;rw[a5 o]at this;cases this
 intro t k e;obtain⟨C,a1,a2,a3,a4,⟨cs,el,a5,a6⟩,a7,a8⟩:=hw.ch t k e;have hlt:=(hw.ch_lt a1).1;refine⟨C,a1,a2,a3,a4,⟨cs,el,by rw[hb.block _ hlt];exact a5,a6⟩,fun o ho=>?_,a8⟩
 cases hr:ro' C.B o with
 |none=>exact hr
 |some u=>have:=h3 C.B o u hr hlt;rw[a7 o ho]at this;cases this
def qso(hw:WRel G w0 ro0 K U w){g args r}(hp:Qk P G g args U r){vs}(hvs:qh K args vs.toList):
 Calls P g vs w fun e w'=>∃v' K',e=.returned v'/\K.le K'/\WRel G w0 ro0 K' U w'/\qg K' r v':=by
 rcases hp with⟨hno,hp⟩|⟨hfl,hp⟩
 . have hvs':qh (K0 K.ro) (args.map plain) vs.toList:=qh.toK0 _ hno (qCF (fun _ _=>qhN) _ hvs);refine(hp.2 w K.ro vs hw.glob hw.ro hvs').mono ?_;rintro e w' ⟨v',ro',rfl,hb,h1,h2,h3,h4⟩;obtain⟨hle,hw'⟩:=hw.keep hb h1 h2 h3;exact⟨v',{K with ro:=ro'},rfl,hle,hw',h4.mono (qtL _)⟩
 have hvs':qh (K0 (qfG w)) (args.map (frz U.H 8)) vs.toList:=qCF (fun _ _=>qp4 hw 8) _ hvs;have hro:=hw.ro;refine(hp.2 w (qfG w) vs (fun g=>(hw.glob g).mono (qe2 hro)) (fun _ _ _ e=>e) hvs').mono ?_;rintro e w' ⟨v',ro',rfl,hb,h1,h2,h3,h4⟩;obtain⟨hle,hw'⟩:=hw.keep (ro':=K.ro) hb (fun _ _ _ e=>e) (fun b o v e=>h2 b o v (h1 b o v (hro b o v e))) (fun _ _ _ e _=>e);exact⟨v',_,rfl,hle,hw',qmW hfl h4⟩
def Qk.bodied{g args r}(h:Qk P G g args U r):bodied P g=true:=by
 rcases h with h|h
 . exact h.2.1
 exact h.2.1
def Qk.acall{G:Glo}{g:FuncId}{args:List AV}{r:AV}{Q:AV->St->Prop}(h:Qk P G g args U r)(hq:Q r U):qf P G g args U Q :=
 ⟨h.bodied,fun w0 ro0 K w vs hw hvs=>(qso hw h hvs).mono fun e w' ⟨v',K',h1,h2,h3,h4⟩=>.inl ⟨v',r,U,K',h1,h2,h3,h4,hq⟩⟩
end
