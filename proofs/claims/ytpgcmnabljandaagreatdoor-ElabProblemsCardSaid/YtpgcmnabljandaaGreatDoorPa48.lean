/- A part of the proof. -/
import Derived.Test.YtpgcmnabljandaaGreatDoorPa47
set_option linter.unusedVariables false
set_option linter.unusedSimpArgs false
set_option maxRecDepth 100000
set_option maxHeartbeats 32000000
set_option linter.defProp false
section
namespace Go.Proofs.YtpgcmnabljandaaGreatDoor
open Go Go.Abs
theorem qfA (k:Int):PZ 209 [I_ k] (.bool (wt k)):=by
 refine Pure.k qg Tryz.func209 rfl (by kernel_rfl) ?_;have hr:wt k=decide (k=1\/k=2\/k=4):=rfl;generalize wt k=r at hr;by_cases h1:k=1
 . subst h1;simp[-getElem?_pos,hr]
 by_cases h2:k=2
 . subst h2;simp[-getElem?_pos,hr]
 by_cases h4:k=4
 . subst h4;simp[-getElem?_pos,hr]
 simp[-getElem?_pos,hr,h1,h2,h4]
theorem qgT (l:List Str)(s:Str)(hl:Fits l):PZ 322 [.sl 1 (l.map qs) .none,.str s] (.bool (l.contains s)):=by
 refine Pure.k qg Tryz.func322 rfl (by kernel_rfl) ?_;generalize hr:l.contains s=r;simp[-getElem?_pos];refine qv.listR l (fun d ev O=>ev 0=.sl 1 (l.map qs) .none/\ev 1=.str s/\ev 5=I_ d.length/\(∃ H,O=⟨H,[]⟩)/\∀ x∈d,(x==s)=false) ?_ ?_ ?_
 . exact⟨by simp,by simp,by simp,⟨_,rfl⟩,by simp⟩
 . rintro d x rest ev O R hR hd hx hlt ⟨h0,h1,h5,⟨H,rfl⟩,hz⟩;have hdw:IntKind.i64.wrap ((d.length:Int)+1)=(d.length+1:Nat):=(by rw[wr (by omega) (by omega)];omega);by_cases hs:x=s
   . have:r=true:=by rw[<- hr,qrZ,<- hs];exact qqW hx
     subst this;simp[-getElem?_pos,h0,h1,h5,hlt,hx,hs]
   . simp[-getElem?_pos,h0,h1,h5,hlt,hx,hs,hdw];exact hR _ _ ⟨h0,h1,by simp,⟨_,rfl⟩,zu hz (by simpa using hs)⟩
 . rintro ev O ⟨h0,h1,h5,⟨H,rfl⟩,hz⟩;have:r=false:=by
    rw[<- hr,qrG];intro h;have hm:=qrZ.1 h;have:=hz s hm;simp at this
   subst this;simp[-getElem?_pos,h0,h5]
theorem has136 (l:List Str)(s:Str)(hl:Fits l):PZ 136 [.sl 1 (l.map qs) .none,.str s] (.bool (l.contains s)):=by
 refine Pure.k qg Tryz.func136 rfl (by kernel_rfl) ?_;generalize hr:l.contains s=r;simp[-getElem?_pos];refine qv.listR l (fun d ev O=>ev 0=.sl 1 (l.map qs) .none/\ev 1=.str s/\ev 5=I_ d.length/\(∃ H,O=⟨H,[]⟩)/\∀ x∈d,(x==s)=false) ?_ ?_ ?_
 . exact⟨by simp,by simp,by simp,⟨_,rfl⟩,by simp⟩
 . rintro d x rest ev O R hR hd hx hlt ⟨h0,h1,h5,⟨H,rfl⟩,hz⟩;have hdw:IntKind.i64.wrap ((d.length:Int)+1)=(d.length+1:Nat):=(by rw[wr (by omega) (by omega)];omega);by_cases hs:x=s
   . have:r=true:=by rw[<- hr,qrZ,<- hs];exact qqW hx
     subst this;simp[-getElem?_pos,h0,h1,h5,hlt,hx,hs]
   . simp[-getElem?_pos,h0,h1,h5,hlt,hx,hs,hdw];exact hR _ _ ⟨h0,h1,by simp,⟨_,rfl⟩,zu hz (by simpa using hs)⟩
 . rintro ev O ⟨h0,h1,h5,⟨H,rfl⟩,hz⟩;have:r=false:=by
    rw[<- hr,qrG];intro h;have hm:=qrZ.1 h;have:=hz s hm;simp at this
   subst this;simp[-getElem?_pos,h0,h5]
theorem vJ (c:Cls)(s:Str)(hl:Fits c.fields):PZ 272 [.agg (qn c),.str s] (.tup [I_ ((qc c s).getD 0),.bool (qc c s).isSome]):=by
 refine Pure.k qg Tryz.func272 rfl (by kernel_rfl) ?_;have hr:qc c s=(c.fields.find? fun f=>f.name==s).map Fld.size:=rfl;generalize qc c s=r at hr;simp[-getElem?_pos];refine qv.listR c.fields (fun d ev O=>ev 1=.str s/\ev 2=.ptr 0 0/\ev 6=I_ d.length/\O.H[0]?=some (.cells [.str c.name,.str c.parent,.sl 5 (c.fields.map q8) .none,.sl 2 (c.blocks.map qR) .none])/\∀ f∈d,(f.name==s)=false) ?_ ?_ ?_
 . exact⟨by simp,by simp,by simp,by simp,by simp⟩
 . rintro d f rest ev O R hR hd hx hlt ⟨h1,h2,h5,b0,hz⟩;have hdw:IntKind.i64.wrap ((d.length:Int)+1)=(d.length+1:Nat):=(by rw[wr (by omega) (by omega)];omega);by_cases hs:f.name=s
   . have:r=some f.size:=by rw[hr,hd,qe6 hz (by simp[hs])];rfl
     subst this;simp[-getElem?_pos,h1,h2,h5,b0,hlt,hx,hs]
   . simp[-getElem?_pos,h1,h2,h5,b0,hlt,hx,hs,hdw];exact hR _ _ ⟨h1,h2,by simp,b0,zu hz (by simpa using hs)⟩
 . rintro ev O ⟨h1,h2,h5,b0,hz⟩;have:r=none:=by rw[hr,qbt hz];rfl
   subst this;simp[-getElem?_pos,h2,h5,b0]
theorem qbJ (c:Cls)(s:Str)(hl:Fits c.fields)(hp:∀ n,qc c s=some n->0<=n):PZ 321 [.agg (qn c),.str s] (I_ (W4 (qc c) s)):=by
 refine Pure.k qg Tryz.func321 rfl (by kernel_rfl) ?_;have hf:=vJ c s hl;have hr:W4 (qc c) s=match qc c s with
  | some n=>if n=0 then 9 else 0
  | none=>7:=rfl
 generalize W4 (qc c) s=r at hr;simp only[qn]at hf
 cases hF:qc c s with
 | none=>
  rw[hF]at hf hr;simp only at hr;subst hr;simp[-getElem?_pos];refine qd.call hf (by simp) ?_;simp[-getElem?_pos]
 | some n=>
  have hn:=hp n hF;rw[hF]at hf hr;simp only at hr;simp[-getElem?_pos];refine qd.call hf (by simp) ?_;by_cases h0:n=0
  . rw[if_pos h0]at hr;subst hr;simp[-getElem?_pos,h0]
  . rw[if_neg h0]at hr;subst hr;have:¬ n<1:=by omega
    simp[-getElem?_pos,this]
theorem qeQ (op:Int)(a b:Ex):PZ 323 [I_ op,.agg (qz a),.agg (qz b)] (.agg (qz (.mk op 0 [] [a,b]))):=by
 refine Pure.k qg Tryz.func323 rfl (by kernel_rfl) ?_;simp only[qa (Ex.mk op 0 [] [a,b]),Ex.op_mk,Ex.n_mk,Ex.name_mk,Ex.args_mk,qqZ,qq9];simp only[qa a,qa b];simp[-getElem?_pos]
theorem Kc (n:Int):PZ 274 [I_ n] (.agg (qz (zI n))):=by
 refine Pure.k qg Tryz.func274 rfl (by kernel_rfl) ?_;simp[-getElem?_pos,zI,qa]
theorem Jo (a:Str)(i:Nat)(hi:i<8)(ha:a.length<=1000):PZ 331 [.str a,I_ i] (.agg (qz (jS a i))):=by
 refine Pure.k qg Tryz.func331 rfl (by kernel_rfl) ?_;have h:=qmp a i hi ha;simp[-getElem?_pos];refine qd.call h (by simp) ?_;simp[-getElem?_pos,jS,qa]
theorem qi1 (l:List Str)(hl:Fits l)(hs:∀ s∈l,Fits s):PZ 374 [.sl 1 (l.map qs) .none] (.bool (l.all js)):=by
 refine Pure.k qg Tryz.func374 rfl (by kernel_rfl) ?_;generalize hr:l.all js=r;simp[-getElem?_pos];refine qv.listR l (fun d ev O=>ev 0=.sl 1 (l.map qs) .none/\ev 3=I_ d.length/\(∃ H,O=⟨H,[]⟩)/\∀ x∈d,js x=true) ?_ ?_ ?_
 . exact⟨by simp,by simp,⟨_,rfl⟩,by simp⟩
 . rintro d x rest ev O R hR hd hx hlt ⟨h0,h3,⟨H,rfl⟩,hz⟩;have hdw:IntKind.i64.wrap ((d.length:Int)+1)=(d.length+1:Nat):=(by rw[wr (by omega) (by omega)];omega);have hv:=qbe x (hs x (qqW hx));simp[-getElem?_pos,h0,h3,hlt,hx];refine qd.call hv (by simp) ?_
   cases hs:js x with
   | false=>
    have:r=false:=by rw[<- hr];exact Ym (qqW hx) hs
    subst this;simp[-getElem?_pos]
   | true=>
    simp[-getElem?_pos,h3,hdw];exact hR _ _ ⟨h0,by simp,⟨_,rfl⟩,zu hz hs⟩
 . rintro ev O ⟨h0,h3,⟨H,rfl⟩,hz⟩;have:r=true:=by rw[<- hr];exact qq7.2 hz
   subst this;simp[-getElem?_pos,h0,h3]
theorem qjz (l:List It):((zA l).length:Int)=l.length+((l.map fun x=>(zA x.items).length+(zA x.els).length).sum:Nat):=by
 induction l with
 | nil=>simp[zA]
 | cons x r ih=>
  simp only[zA,qqY,qX,qq5,qqZ,qsK];omega
theorem KK (l:List It)(hl:Fits l)(h:∀ x∈l,PZ 267 [.sl 12 (x.items.map qK) .none] (I_ (jj x.items))/\PZ 267 [.sl 12 (x.els.map qK) .none] (I_ (jj x.els))) :
 PZ 267 [.sl 12 (l.map qK) .none] (I_ (jj l)):=by
 refine Pure.k qg Tryz.func267 rfl (by kernel_rfl) ?_;have hr:jj l=IntKind.i64.wrap ((l.length:Int)+((l.map fun x=>(zA x.items).length+(zA x.els).length).sum:Nat)):=by unfold jj;rw[qjz]
 generalize jj l=r at hr;simp[-getElem?_pos];refine qv.listR l (fun d ev O=>ev 0=.sl 12 (l.map qK) .none/\ev 3=I_ (IntKind.i64.wrap ((l.length:Int)+((d.map fun x=>(zA x.items).length+(zA x.els).length).sum:Nat)))/\ev 4=I_ d.length/\∃ H,O=⟨H,[]⟩) ?_ ?_ ?_
 . exact⟨by simp,by simp;exact (wr (by omega) (by omega)).symm,by simp,⟨_,rfl⟩⟩
 . rintro d x rest ev O R hR hd hx hlt ⟨h0,h3,h4,⟨H,rfl⟩⟩;have hdw:IntKind.i64.wrap ((d.length:Int)+1)=(d.length+1:Nat):=(by rw[wr (by omega) (by omega)];omega);obtain⟨p1,p2⟩:=h x (qqW hx);have hw:IntKind.i64.wrap (IntKind.i64.wrap (IntKind.i64.wrap ((l.length:Int)+((d.map fun x=>(zA x.items).length+(zA x.els).length).sum:Nat))+jj x.items)+jj x.els)=IntKind.i64.wrap ((l.length:Int)+(((d++[x]).map fun x=>(zA x.items).length+(zA x.els).length).sum:Nat)):=by
    unfold jj;simp only[qrf,List.sum_append,qqZ,qq9,qsK,List.sum_nil];simp[IntKind.wrap,IntKind.bits,IntKind.signed];omega
   simp[-getElem?_pos,h0,h3,h4,hlt,hx,ql x,qa x.expr];refine qd.call p1 (by simp) ?_;simp[-getElem?_pos,h0,h4,hx,ql x,qa x.expr];refine qd.call p2 (by simp) ?_;simp[-getElem?_pos,h4,hdw];exact hR _ _ ⟨h0,by simp[hw],by simp,⟨_,rfl⟩⟩
 . rintro ev O ⟨h0,h3,h4,⟨H,rfl⟩⟩;rw[<- hr]at h3;simp[-getElem?_pos,h0,h3,h4]
theorem qjA:∀ x,yF x->PZ 267 [.sl 12 (x.items.map qK) .none] (I_ (jj x.items))/\PZ 267 [.sl 12 (x.els.map qK) .none] (I_ (jj x.els)) :=
 It.ind fun x h1 h2 hl=>⟨KK x.items (hl x (by rw[qX];simp)).items fun y hy=>h1 y hy (hl.itemB hy),KK x.els (hl x (by rw[qX];simp)).els fun y hy=>h2 y hy (hl.elsB hy)⟩
theorem qmn (l:List It)(hl:Fits l)(h:∀ x∈l,yF x):PZ 267 [.sl 12 (l.map qK) .none] (I_ (jj l)):=KK l hl fun x hx=>qjA x (h x hx)
theorem yL.app:∀ {a b c d:List (List AV)},yL a b->yL c d->yL (a++c) (b++d)
 | [],[],_,_,_,h=>h
 | x::a,y::b,_,_,h,h'=>by
  simp only[yL,qrd]at h ⊢;exact⟨h.1,yL.app h.2 h'⟩
 | [],_::_,_,_,h,_=>by simp[yL]at h
 | _::_,[],_,_,h,_=>by simp[yL]at h
def YL (r:List AV):List AV:=r
@[simp]theorem Wb (l:List (List AV)):l.map YL=l:=by
 have:YL=id:=rfl;rw[this,List.map_id]
theorem qfB {D:Nat->Option TI}{H:List Blk}{ty e sz:Nat}{i j:TI}{tok:Abs.Tok}{T:List (Option Nat)}{s m:List (List AV)}(hi:D ty=some i)(hd:i.d=.sl e)(hj:D e=some j)(hsz:j.size=sz)(h0:0<sz)(hz:j.zero.length=sz)(hb:j.bytes<=65536)(hlen:s.length+m.length<=1073741824) :
 qt D ⟨H,zG T s⟩ ty (ye sz YL T.length s) (.sl sz m tok)=some (ye sz YL T.length (s++m),⟨H,zG T (s++m)⟩):=by
 have:=zq (D:=D) (H:=H) (en:=YL) (T:=T) (s:=s) (m:=m) (tok:=tok) hi hd hj hsz h0 hz hb hlen sz (.inl rfl)
 rwa[Wb]at this
theorem qgp {D:Nat->Option TI}{O:St}{ty e sz t:Nat}{i:TI}{s:List (List AV)}(hi:D ty=some i)(hd:i.d=.sl e):kw D O ty (ye sz YL t s)=some (I_ s.length):=by
 cases s with
 | nil=>simp[kw,hi,hd,ye]
 | cons a r=>simp[kw,hi,hd,ye,YL]
theorem qgo {α:Type}{sz:Nat}{en:α->List AV}{s:List (List AV)}{l:List α}(h:yL s (l.map en)):Leq (qiD sz YL s) (.sl sz (l.map en) .none):=by
 cases s with
 | nil=>
  have:l=[]:=qrQ.1 (by have:=yL.len _ _ h;simpa using this.symm);subst this;exact Leq.slnil
 | cons a r=>
  simp only[qiD,Wb];unfold Leq;exact .inr ⟨rfl,h,.inl rfl⟩
theorem VW {sz:Nat}{s:List (List AV)}(h:zp s=true):zg (qiD sz YL s)=true:=by
 cases s with
 | nil=>rfl
 | cons a r=>
  simp only[qiD,Wb];simpa using h
def YS (c:Option Ex):List Ex:=match c with
 | none=>[]
 | some q=>[q]
def qmB:List (Nat×Sch×List Nat):=[(3,.step 0 [6,5] (.step 1 [6,5,3,2] (.step 2 [6,5,3] (.step 3 [6,5] (.step 4 [6,5] (.step 5 [6] (.step 6 [] (.done))))))),[])]
theorem YY (op:Int)(c:Option Ex)(e:Ex):PZ 271 [I_ op,.sl 4 ((YS c).map qz) .none,.agg (qz e)] (.agg (qz (zm c op e))):=by
 refine Pure.kO ⟨false,qmB,[],[]⟩ false qg Tryz.func271 rfl (by kernel_rfl) ?_
 cases c with
 | none=>
  simp only[YS,zm,qa e,qq9];simp[-getElem?_pos]
 | some q=>
  have h:=qeQ op q e;simp only[YS,zm,qqZ,qq9];simp only[qa (Ex.mk op 0 [] [q,e]),Ex.op_mk,Ex.n_mk,Ex.name_mk,Ex.args_mk,qqZ,qq9]at h ⊢;simp only[qa e,qa q]at h ⊢;simp[-getElem?_pos];rw[zJ rfl];simp[-getElem?_pos,zR];refine qd.call h (by simp) ?_;simp[-getElem?_pos,zR]
def qmz:List (Nat×Sch×List Nat):=[(7,.step 0 [13,12,11,1] (.step 1 [13,12,11] (.step 2 [13,12,11,10,9,6,5,3] (.step 3 [13,12,11,10,9,6,5] (.step 4 [13,12,11,10,9,6,5] (.step 5 [13,12,11,10,9,6] (.step 6 [13,12,11,10,9] (.step 7 [13,12,11,10,9] (.step 8 [13,12,11,10,9] (.step 9 [13,12,11,10] (.step 10 [13,12,11] (.step 11 [13,12] (.step 12 [13] (.step 13 [] (.done)))))))))))))),[])]
theorem qjy (s:Str)(b:Ex):∀ e,vG e->PZ 324 [.agg (qz e),.str s,.agg (qz b)] (.agg (qz (qZ s b e))):=by
 refine Ex.ind fun e ih hs=>?_
 refine Pure.kO ⟨false,qmz,[],[]⟩ false qg Tryz.func324 rfl (by kernel_rfl) ?_;have hsl:=hs.self;rw[kf];by_cases h2:e.op=2/\e.name=s
 . rw[if_pos h2];simp only[qa e,qa b];simp[-getElem?_pos,h2.1,h2.2]
 . rw[if_neg h2];have hk:¬ e.op=2\/(e.op=2/\¬ e.name=s):=by
    by_cases k:e.op=2
    . exact .inr ⟨k,fun h=>h2 ⟨k,h⟩⟩
    . exact .inl k
   simp only[qa (Ex.mk _ _ _ _),Ex.op_mk,Ex.n_mk,Ex.name_mk,Ex.args_mk];simp only[qa e,qa b]at ih ⊢;rcases hk with k|⟨k,k'⟩
   case' inl=>simp[-getElem?_pos,k]
   case' inr=>simp[-getElem?_pos,k,k']
   all_goals
    refine qv.listR e.args (fun d ev O=>ev 1=.str s/\ev 3=.ptr 0 0/\ev 5=.ptr 1 0/\ev 6=.ptr 2 0/\ev 7=.ptr 3 0/\ev 8=I_ d.length/\∃ t,O=⟨.cells [I_ e.op,I_ e.n,.str e.name,sE e.args]::.cells [I_ b.op,I_ b.n,.str b.name,sE b.args]::.cells [I_ 0,I_ 0,.str [],.sl 0 [] .nil]::.cells [I_ e.op,I_ e.n,.str e.name,ye 4 qz 0 (d.map (qZ s b))]::t,zG [] (d.map (qZ s b))⟩) ?_ ?_ ?_
    . exact⟨by simp,by simp,by simp,by simp,by simp,by simp,[],by simp[k]⟩
    . rintro d a rest ev O R hR hd hx hlt ⟨h1,h3,h5,h6,h7,h8,t,rfl⟩;have ham:=qqW hx;have hdw:=wq (n:=d.length) (by omega);have hi:=ih a ham (hs.arg ham);have happ:∀ H,qt (Dof Zp) ⟨H,zG [] (d.map (qZ s b))⟩ 32 (ye 4 qz 0 (d.map (qZ s b))) (.sl 4 [qz (qZ s b a)] .tight)=some (ye 4 qz 0 (d.map (qZ s b)++[qZ s b a]),⟨H,zG [] (d.map (qZ s b)++[qZ s b a])⟩):=fun H=>
       zq (sz:=4) (T:=[]) (m:=[qZ s b a]) D32 rfl D55 rfl (by omega) rfl (by decide) (by simp;omega) 4 (.inl rfl)
      simp only[qa a,qa (qZ s b a)]at hi happ;have hR':∀ ev',(ev' 1=.str s/\ev' 3=.ptr 0 0/\ev' 5=.ptr 1 0/\ev' 6=.ptr 2 0/\ev' 7=.ptr 3 0/\ev' 8=I_ (d.length+1:Nat))->R ev' ⟨.cells [I_ e.op,I_ e.n,.str e.name,sE e.args]::.cells [I_ b.op,I_ b.n,.str b.name,sE b.args]::.cells [I_ 0,I_ 0,.str [],.sl 0 [] .nil]::.cells [I_ e.op,I_ e.n,.str e.name,ye 4 qz 0 (d.map (qZ s b)++[qZ s b a])]::t,zG [] (d.map (qZ s b)++[qZ s b a])⟩:=fun ev' hh=>by
       obtain⟨a1,a2,a3,a4,a5,a6⟩:=hh;exact hR _ _ ⟨a1,a2,a3,a4,a5,by rw[a6];simp,t,by simp⟩
      generalize d.map (qZ s b)=D at *;generalize qZ s b a=A at *;simp[-getElem?_pos,h3,h8,hlt];rw[zJ rfl];simp[-getElem?_pos,zR,h1,h3,h5,h7,h8,hx,qa a];refine qd.call hi (by simp) ?_;simp[-getElem?_pos,zR,h7,h8,happ,hdw];exact hR' _ ⟨h1,h3,h5,h6,h7,by simp⟩
    . rintro ev O ⟨h1,h3,h5,h6,h7,h8,t,rfl⟩;simp[-getElem?_pos,h3,h6,h7,h8];have q:=Qh (sz:=4) (en:=qz) (s:=e.args.map (qZ s b));rw[qr2]at q
      first | exact q | exact⟨k,q⟩
mutual
def zF (s:Str)(b:Ex):It->It
 | .mk k e n i w l m x y=>.mk k (if wt k=true then qZ s b e else e) n i w (VF s b l) (VF s b m) x y
def VF (s:Str)(b:Ex):List It->List It
 | []=>[]
 | x::r=>zF s b x::VF s b r
end
@[simp]theorem qcr (s:Str)(b:Ex):∀ l,VF s b l=l.map (zF s b)
 | []=>by simp[VF]
 | e::r=>by simp[VF,qcr s b r]
theorem kN (s:Str)(b:Ex)(x:It):zF s b x=.mk x.kind (if wt x.kind=true then qZ s b x.expr else x.expr) x.name x.index x.ws (x.items.map (zF s b)) (x.els.map (zF s b)) x.before x.after:=by
 cases x;simp only[zF,qcr];rfl
theorem qhB {s:Str}{b:Ex}{x:It}:(zF s b x).kind=x.kind:=by rw[kN];rfl
theorem JZ {s:Str}{b:Ex}{x:It}:(zF s b x).expr=if wt x.kind=true then qZ s b x.expr else x.expr:=by rw[kN];rfl
theorem qhA {s:Str}{b:Ex}{x:It}:(zF s b x).name=x.name:=by rw[kN];rfl
theorem qes {s:Str}{b:Ex}{x:It}:(zF s b x).index=x.index:=by rw[kN];rfl
theorem qf3 {s:Str}{b:Ex}{x:It}:(zF s b x).ws=x.ws:=by rw[kN];rfl
theorem Qf {s:Str}{b:Ex}{x:It}:(zF s b x).items=x.items.map (zF s b):=by rw[kN];rfl
theorem Jl {s:Str}{b:Ex}{x:It}:(zF s b x).els=x.els.map (zF s b):=by rw[kN];rfl
theorem Yv {s:Str}{b:Ex}{x:It}:(zF s b x).before=x.before:=by rw[kN];rfl
theorem KJ {s:Str}{b:Ex}{x:It}:(zF s b x).after=x.after:=by rw[kN];rfl
theorem QI (s:Str)(b:Ex)(l:List It)(hl:l.length<=1000)(h:∀ x∈l,Low1 x/\PZ 273 [sI x.items,.str s,.agg (qz b)] (.sl 12 ((x.items.map (zF s b)).map qK) .none)/\PZ 273 [sI x.els,.str s,.agg (qz b)] (.sl 12 ((x.els.map (zF s b)).map qK) .none)) :
 PZ 273 [sI l,.str s,.agg (qz b)] (.sl 12 ((l.map (zF s b)).map qK) .none):=by
 refine Pure.k qg Tryz.func273 rfl (by kernel_rfl) ?_;simp only[qa b]at h ⊢;simp[-getElem?_pos];refine qv.listR l (fun d ev O=>ev 0=sI l/\ev 1=.str s/\ev 5=.ptr 0 0/\ev 7=ye 12 qK 0 (d.map (zF s b))/\ev 8=I_ d.length/\∃ t,O=⟨.cells [I_ b.op,I_ b.n,.str b.name,sE b.args]::t,zG [] (d.map (zF s b))⟩) ?_ ?_ ?_
 . exact⟨by simp,by simp,by simp,by simp,by simp,[],by simp⟩
 . rintro d v r ev O R hR hd hv hlt ⟨h0,h1,h5,h7,h8,t,rfl⟩;have hdw:=wq (n:=d.length) (by omega);obtain⟨lo,p1,p2⟩:=h v (qqW hv);have hx:=qjy s b v.expr lo.slim;have hka:=qfA v.kind;have happ:∀ H,qt (Dof Zp) ⟨H,zG [] (d.map (zF s b))⟩ 24 (ye 12 qK 0 (d.map (zF s b))) (.sl 12 [qK (zF s b v)] .tight)=some (ye 12 qK 0 (d.map (zF s b)++[zF s b v]),⟨H,zG [] (d.map (zF s b)++[zF s b v])⟩):=fun H=>
    zq (sz:=12) (T:=[]) (m:=[zF s b v]) D24 rfl D68 rfl (by omega) rfl (by decide) (by simp;omega) 12 (.inl rfl)
   have hR':∀ ev' t',(ev' 0=sI l/\ev' 1=.str s/\ev' 5=.ptr 0 0/\ev' 7=ye 12 qK 0 (d.map (zF s b)++[zF s b v])/\ev' 8=I_ (d.length+1:Nat))->R ev' ⟨.cells [I_ b.op,I_ b.n,.str b.name,sE b.args]::t',zG [] (d.map (zF s b)++[zF s b v])⟩:=fun ev' t' hh=>by
    obtain⟨a0,a1,a5,a7,a8⟩:=hh;exact hR _ _ ⟨a0,a1,a5,by rw[a7];simp,by rw[a8];simp,t',by simp⟩
   simp only[ql (zF s b v),qhB,JZ,qhA,qes,qf3,Qf,Jl,Yv,KJ,qr2]at happ;simp only[qr2]at p1 p2;generalize d.map (zF s b)=D at *;generalize zF s b v=V at *
   cases hk:wt v.kind with
   | true=>
    rw[hk]at hka;simp only[hk,if_true,qa (qZ s b v.expr),qrd,qrh]at happ;simp only[qa v.expr,qa b,qa (qZ s b v.expr)]at hx;simp[-getElem?_pos,h0,h8,hlt,hv,ql v,qa v.expr];refine qd.call hka (by simp) ?_;simp[-getElem?_pos,h1,h5];refine qd.call hx (by simp) ?_;simp[-getElem?_pos,h1,h5];refine qd.call p1 (by simp) ?_;simp[-getElem?_pos,h1,h5];refine qd.call p2 (by simp) ?_;simp[-getElem?_pos,happ,h7,h8,hdw];exact hR' _ _ ⟨h0,h1,h5,by simp,by simp⟩
   | false=>
    rw[hk]at hka;simp only[hk,qrq,if_false,qa v.expr,qrd,qrh]at happ;simp[-getElem?_pos,h0,h8,hlt,hv,ql v,qa v.expr];refine qd.call hka (by simp) ?_;simp[-getElem?_pos,h1,h5];refine qd.call p1 (by simp) ?_;simp[-getElem?_pos,h1,h5];refine qd.call p2 (by simp) ?_;simp[-getElem?_pos,happ,h7,h8,hdw];exact hR' _ _ ⟨h0,h1,h5,by simp,by simp⟩
 . rintro ev O ⟨h0,h1,h5,h7,h8,t,rfl⟩;have q:=Qh (sz:=12) (en:=qK) (s:=l.map (zF s b));simp[-getElem?_pos,h0,h7,h8];simpa using q
theorem qcu (s:Str)(b:Ex):∀ x,W9 x->PZ 273 [sI x.items,.str s,.agg (qz b)] (.sl 12 ((x.items.map (zF s b)).map qK) .none)/\PZ 273 [sI x.els,.str s,.agg (qz b)] (.sl 12 ((x.els.map (zF s b)).map qK) .none) :=
 It.ind fun x h1 h2 hl=>⟨QI s b x.items hl.self.items fun y hy=>⟨(hl.item hy).self,h1 y hy (hl.item hy)⟩,QI s b x.els hl.self.els fun y hy=>⟨(hl.els hy).self,h2 y hy (hl.els hy)⟩⟩
theorem qeu (s:Str)(b:Ex)(l:List It)(hl:l.length<=1000)(h:∀ x∈l,W9 x):PZ 273 [sI l,.str s,.agg (qz b)] (.sl 12 ((l.map (zF s b)).map qK) .none) :=
 QI s b l hl fun x hx=>⟨(h x hx).self,qcu s b x (h x hx)⟩
theorem qqL (e:Ex):PZ 36 [.agg (qz e),.agg (qz zEx)] (.bool (ww e)):=by
 refine Pure.k qg Tryz.func36 rfl (by kernel_rfl) ?_;have hr:ww e=(decide (e.op=0)&&decide (e.n=0)&&decide (e.name=[])&&decide (e.args=[])):=rfl;generalize ww e=r at hr;simp only[qa e];by_cases h1:e.op=0
 . by_cases h2:e.n=0
   . by_cases h3:e.name=[]
     . cases h4:e.args with
       | nil=>
        simp[h1,h2,h3,h4]at hr;subst hr;simp[-getElem?_pos,zEx,qa,h1,h2,h3];refine qv.count 0 (fun k ev O=>ev 2=.ptr 0 0/\ev 5=I_ 0/\O.H[0]?=some (.cells [I_ 0,I_ 0,.str [],.sl 4 [] .none])) ?_ ?_ ?_
        . exact⟨by simp,by simp,by simp⟩
        . intro i ev O hi;omega
        . rintro ev O ⟨a,b,c⟩;simp[-getElem?_pos,a,b,c]
       | cons a l=>
        simp[h4]at hr;subst hr;have:¬ ((l.length:Int)+1=0):=by omega
        simp[-getElem?_pos,zEx,qa,h1,h2,h3,this]
     . simp[h3]at hr;subst hr;simp[-getElem?_pos,zEx,qa,h1,h2,h3]
   . simp[h2]at hr;subst hr;simp[-getElem?_pos,zEx,qa,h1,h2]
 . simp[h1]at hr;subst hr;simp[-getElem?_pos,zEx,qa,h1]
theorem qja (x:It)(hk1:1<=x.kind)(hk6:x.kind<=6):PZ 372 [.agg (qK x)] (.bool (yA x)):=by
 refine Pure.k qg Tryz.func372 rfl (by kernel_rfl) ?_;have hr:yA x=((wt x.kind||ww x.expr)&&(K9 x.kind||decide (x.name=[]))&&(decide (x.kind=5)||decide (x.index=[]))&&(decide (x.kind=3)||decide (x.ws=[])) &&
  (decide (x.kind=4\/x.kind=5)||decide (x.items=[]))&&(decide (x.kind=4)||decide (x.els=[]))&&(decide (x.kind=6)||(decide (x.before=[])&&decide (x.after=[])))):=rfl
 generalize yA x=r at hr;have hbl:=qqL x.expr;have hka:=qfA x.kind;have hlen:∀ {α:Type} (l:List α),((0:Int)<l.length)=(l≠[]):=fun l=>by cases l<;>simp<;>omega
 rw[qa x.expr]at hbl;have hk:x.kind=1\/x.kind=2\/x.kind=3\/x.kind=4\/x.kind=5\/x.kind=6:=by omega
 simp only[ql,qa x.expr];rcases hk with hk|hk|hk|hk|hk|hk
 all_goals
  rw[hk]at hka;simp[hk,wt,K9]at hr hka;simp[-getElem?_pos,hk];refine qd.call hka (by simp) ?_;simp[-getElem?_pos]
  try refine qd.less hbl (by simp) (by simp[zt,Leq,zEx,qa]) ?_
  try (cases hB:ww x.expr<;>simp[hB]at hr<;>simp[-getElem?_pos,vq])
  try simp[-getElem?_pos,vq]
  all_goals try simp only[qrH]
  all_goals try grind
theorem qms (x:It)(hl:Fits x.ws)(hn:Fits x.name):PZ 373 [.agg (qK x)] (I_ (if jk x.ws≠0 then jk x.ws else if js x.name=false then 7 else 0)):=by
 refine Pure.k qg Tryz.func373 rfl (by kernel_rfl) ?_;generalize hr:(if jk x.ws≠0 then jk x.ws else if js x.name=false then 7 else 0:Int)=r;have hw:jk x.ws=if 16<x.ws.length then 2 else if x.ws=[] then 1 else if x.ws.any zo=true then 1 else 0:=rfl
 have hv:=qbe x.name hn;generalize jk x.ws=w at hr hw;simp only[ql,qa x.expr];by_cases h1:(16:Int)<x.ws.length
 . rw[if_pos (by omega)]at hw;subst hw;simp at hr;subst hr;simp[-getElem?_pos,h1]
 . rw[if_neg (by omega)]at hw;by_cases h2:x.ws=[]
   . rw[if_pos h2]at hw;subst hw;simp at hr;subst hr;simp[-getElem?_pos,h2]
   . rw[if_neg h2]at hw;have h2':¬ ((x.ws.length:Int)=0):=by
      intro h;exact h2 (qrQ.1 (by omega))
     simp[-getElem?_pos,h1,h2];refine qv.listR x.ws (fun d ev O=>ev 1=.ptr 0 0/\ev 3=I_ d.length/\O.T=[]/\O.H[0]?=some (.cells [I_ x.kind,I_ x.expr.op,I_ x.expr.n,.str x.expr.name,sE x.expr.args,.str x.name,.str x.index,sW x.ws,sI x.items,sI x.els,sS x.before,sS x.after])/\∀ y∈d,zo y=false) ?_ ?_ ?_
     . exact⟨by simp,by simp,by simp,by simp,by simp⟩
     . rintro d v rest ev ⟨H,T⟩ R hR hd hx hlt ⟨a1,a3,aT,b0,hz⟩;simp only at aT b0;subst aT;have hdw:=wq (n:=d.length) (by omega);have hwb:zo v=(decide (v.lo<0)||decide (v.hi<v.lo)||decide (65535<v.hi)||decide (v.weight<0)||decide (1000<v.weight)):=rfl
       cases hb:zo v with
       | true=>
        rw[if_pos (qq2.2 ⟨v,qqW hx,hb⟩)]at hw;subst hw;simp at hr;subst hr;rw[hb]at hwb;simp at hwb;simp[-getElem?_pos,a1,a3,b0,hlt,hx]
        repeat' first | (refine And.intro ?_ ?_) | (intro _)
        all_goals omega
       | false=>
        rw[hb]at hwb;simp at hwb;obtain⟨⟨⟨⟨c1,c2⟩,c3⟩,c4⟩,c5⟩:=hwb;have d1:¬ v.lo<0:=(by omega);have d2:¬ v.hi<v.lo:=(by omega);have d3:¬ 65535<v.hi:=(by omega);have d4:¬ v.weight<0:=(by omega);have d5:¬ 1000<v.weight:=(by omega);simp[-getElem?_pos,a1,a3,b0,hlt,hx,hdw,d1,d2,d3,d4,d5];exact hR _ _ ⟨by simp[a1],by simp,by simp,qb b0 _,zu hz hb⟩
     . rintro ev ⟨H,T⟩ ⟨a1,a3,aT,b0,hz⟩;simp only at aT b0;subst aT;rw[if_neg (by rw[qsa,qrx];exact fun y hy=>by simp[hz y hy])]at hw;subst hw;simp at hr;simp[-getElem?_pos,a1,a3,b0];refine qd.call hv (by simp) ?_;cases hvs:js x.name<;>simp[hvs]at hr<;>subst hr<;>simp[-getElem?_pos]
theorem qjt (x:It)(d:Nat)(hd:d<=1000000)(h:Hold1 x)(hl:Low1 x)(hsz:(pre x.expr).length<=100000)(hh:hgt x.expr<=1000):PZ 319 [.agg (qK x),I_ d] (I_ (jD x d)):=by
 refine Pure.k qg Tryz.func319 rfl (by kernel_rfl) ?_;have hr:jD x d=if wQ x.kind=false\/yA x=false\/4<d\/(0<d/\(x.kind=3\/x.kind=6)) then 1
  else if x.kind=3 then (if jk x.ws≠0 then jk x.ws else if js x.name=false then 7 else 0)
  else if x.kind=6 then (if x.before=[]\/x.after=[] then 1 else if (x.before++x.after).any (fun s=>!js s)=true then 7 else 0)
  else if x.kind=5 then (if qO x.name=false\/qO x.index=false then 7 else 0)
  else qM x.expr:=rfl
 generalize jD x d=r at hr;have hkk:wQ x.kind=(decide (1<=x.kind)&&decide (x.kind<=6)):=rfl;have hun:=fun h1 h6=>qja x h1 h6
 have hdi:=qms x h.ws h.name;have hvb:=qi1 x.before h.before fun s hs=>h.names s (qrD _ hs)
 have hva:=qi1 x.after h.after fun s hs=>h.names s (qrK _ hs)
 have hn1:=yl x.name h.name;have hn2:=yl x.index h.index;have hve:=JS x.expr h.expr hh hsz;simp only[ql x,qa x.expr,qrd,qrh]at hun hdi hve;simp only[ql x,qa x.expr];by_cases hk1:x.kind<1
 . rw[if_pos (.inl (by rw[hkk,decide_eq_false (by omega:¬ 1<=x.kind)];rfl))]at hr;subst hr;simp[-getElem?_pos,hk1]
 by_cases hk6:6<x.kind
 . rw[if_pos (.inl (by rw[hkk,decide_eq_false (by omega:¬ x.kind<=6)];simp))]at hr;subst hr;simp[-getElem?_pos,hk1,hk6]
 have hun:=hun (by omega) (by omega);have hk0:wQ x.kind=true:=by rw[hkk,decide_eq_true (by omega:1<=x.kind),decide_eq_true (by omega:x.kind<=6)];rfl
 cases hp:yA x with
 | false=>
  rw[if_pos (.inr (.inl hp))]at hr;rw[hp]at hun;subst hr;simp[-getElem?_pos,hk1,hk6];refine qd.call hun (by simp) ?_;simp[-getElem?_pos]
 | true=>
 rw[hp]at hun;by_cases hd4:(4:Int)<d
 . rw[if_pos (.inr (.inr (.inl (by omega))))]at hr;subst hr;simp[-getElem?_pos,hk1,hk6];refine qd.call hun (by simp) ?_;simp[-getElem?_pos,hd4]
 by_cases hd0:(0:Int)<d/\(x.kind=3\/x.kind=6)
 . rw[if_pos (.inr (.inr (.inr ⟨by omega,hd0.2⟩)))]at hr;subst hr;obtain⟨hd1,hk36⟩:=hd0;have hd1n:0<d:=(by omega);have hdz:¬ d=0:=(by omega);have hd4n:¬ 4<d:=(by omega);simp[-getElem?_pos,hk1,hk6];refine qd.call hun (by simp) ?_;rcases hk36 with k3|k3
   . simp[-getElem?_pos,hd4,hd1n,k3]
   . simp[-getElem?_pos,hd4,hd1n,k3]
 rw[if_neg (by
  rintro (e|e|e|⟨e1,e2⟩)
  . rw[hk0]at e;cases e
  . rw[hp]at e;cases e
  . omega
  . exact hd0 ⟨by omega,e2⟩)]at hr
 have hd4n:¬ 4<d:=by omega
 by_cases k3:x.kind=3
 . have hd1:¬ (0:Int)<d:=fun e=>hd0 ⟨e,.inl k3⟩
   have hdz:d=0:=(by omega);rw[if_pos k3]at hr;rw[hr];rw[k3]at hdi hun;simp[-getElem?_pos,k3];refine qd.call hun (by simp) ?_;simp[-getElem?_pos,hdz];refine qd.call hdi (by simp) ?_;simp[-getElem?_pos]
 by_cases k6:x.kind=6
 . have hd1:¬ (0:Int)<d:=fun e=>hd0 ⟨e,.inr k6⟩
   have hdz:d=0:=(by omega);rw[if_neg k3,if_pos k6]at hr;rw[k6]at hun;simp[-getElem?_pos,k6];refine qd.call hun (by simp) ?_
   cases hb:x.before with
   | nil=>
    rw[if_pos (.inl hb)]at hr;subst hr;simp[-getElem?_pos,hdz]
   | cons b0 br=>
    have hb1:¬ ((br.length:Int)+1=0):=(by omega)
    cases ha:x.after with
    | nil=>
     rw[if_pos (.inr ha)]at hr;subst hr;simp[-getElem?_pos,hdz,hb1]
    | cons a0 ar=>
     have ha1:¬ ((ar.length:Int)+1=0):=(by omega);rw[if_neg (by simp[hb,ha])]at hr;have hany:((x.before++x.after).any fun s=>!js s)=(!x.before.all js||!x.after.all js):=by
      rw[List.any_append];congr 1
      . rw[qtU];simp
      . rw[qtU];simp
     rw[hany]at hr;rw[hb]at hvb hr;rw[ha]at hva hr;simp only[qqZ,qs]at hvb hva;generalize (b0::br).all js=vb at *;generalize (a0::ar).all js=va at *;simp[-getElem?_pos,hdz,hb1,ha1];refine qd.call hvb (by simp) ?_
     cases vb with
     | false=>
      simp at hr;subst hr;simp[-getElem?_pos]
     | true=>
      simp[-getElem?_pos];refine qd.call hva (by simp) ?_
      cases va with
      | false=>
       simp at hr;subst hr;simp[-getElem?_pos]
      | true=>
       simp at hr;subst hr;simp[-getElem?_pos]
 rw[if_neg k3,if_neg k6]at hr;by_cases k5:x.kind=5
 . rw[if_pos k5]at hr;rw[k5]at hun;simp[-getElem?_pos,k5];refine qd.call hun (by simp) ?_;have hdp:d=0\/(0<d/\¬ d=0):=(by omega);rcases hdp with hdz|⟨hdz,hdq⟩
   all_goals
    simp[-getElem?_pos,hd4,hdz];refine qd.call hn1 (by simp) ?_
    cases e1:qO x.name with
    | false=>
     rw[if_pos (.inl e1)]at hr;subst hr;simp[-getElem?_pos]
    | true=>
     simp[-getElem?_pos];refine qd.call hn2 (by simp) ?_
     cases e2:qO x.index with
     | false=>
      rw[if_pos (.inr e2)]at hr;subst hr;simp[-getElem?_pos]
     | true=>
      rw[if_neg (by simp[e1,e2])]at hr;subst hr;simp[-getElem?_pos]
 . rw[if_neg k5]at hr;subst hr;simp[-getElem?_pos,hk1,hk6];refine qd.call hun (by simp) ?_;have hdp:d=0\/(0<d/\¬ d=0):=(by omega);rcases hdp with hdz|⟨hdz,hdq⟩
   all_goals
    simp[-getElem?_pos,k3,k5,k6,hd4,hdz];refine qd.call hve (by simp) ?_;simp[-getElem?_pos]
mutual
noncomputable def KE:It->Nat->Int
 | .mk k e n i w l m b a,d=>if jD (.mk k e n i w l m b a) d=0 then (if kZ l (d+1)=0 then kZ m (d+1) else kZ l (d+1)) else jD (.mk k e n i w l m b a) d
noncomputable def kZ:List It->Nat->Int
 | [],_=>0
 | x::r,d=>if KE x d=0 then kZ r d else KE x d
end
theorem qf0 (x:It)(d:Nat):KE x d=if jD x d=0 then (if kZ x.items (d+1)=0 then kZ x.els (d+1) else kZ x.items (d+1)) else jD x d:=by
 cases x;simp only[KE];rfl
theorem qjw {d:Nat}:kZ [] d=0:=by simp[kZ]
theorem qmm (l:List It)(d:Nat):kZ l d=qh (fun x=>KE x d) l:=by
 induction l with
 | nil=>simp[kZ,qh]
 | cons x r ih=>simp only[kZ,qh,ih]
theorem qml:∀ (x:It) (p:Place),KE x p.depth=qh (fun y=>jD y.1 y.2.depth) (qg8 p x):=by
 refine It.ind fun x h1 h2 p=>?_
 have key:∀ (l:List It) (q:Place),(∀ a∈l,∀ p:Place,KE a p.depth=qh (fun y=>jD y.1 y.2.depth) (qg8 p a))->kZ l q.depth=qh (fun y=>jD y.1 y.2.depth) (jl q l):=by
  intro l q
  induction l with
  | nil=>intro _;simp[kZ,qh]
  | cons a r ih=>
   intro h;rw[vH,qT,<- h a (by simp) q,kZ,ih fun y hy=>h y (by simp[hy])]
 rw[qf0,v8,qh];by_cases h0:jD x p.depth=0
 . rw[if_pos h0,if_pos h0];have hs:=Qc h0;rw[qT];by_cases h45:x.kind=4\/x.kind=5
   . have e1:(ym x p).depth=p.depth+1:=(by rw[vt,yV,if_pos h45]);have e2:(jx x p).depth=p.depth+1:=(by rw[yV,if_pos h45]);rw[<- key x.items (ym x p) h1,<- key x.els (jx x p) h2,e1,e2]
   . obtain⟨e1,e2⟩:=VL hs (fun e=>h45 (.inl e));have e2:=e2 fun e=>h45 (.inr e)
     rw[e1,e2,qjw];simp[qh]
 . rw[if_neg h0,if_neg h0]
theorem qjv (l:List It):kZ l 0=qh (fun y=>jD y.1 y.2.depth) (jl ⟨0,[]⟩ l):=by
 induction l with
 | nil=>simp[kZ,qh]
 | cons x r ih=>rw[vH,qT,kZ,ih,show KE x 0=_ from qml x ⟨0,[]⟩]
theorem JX (l:List It)(d:Nat)(hd:d<=100000)(hl:Fits l)(hx:∀ x∈l,Hold1 x/\Low1 x/\(pre x.expr).length<=100000/\hgt x.expr<=1000)
 (h:∀ x∈l,PZ 268 [.sl 12 (x.items.map qK) .none,I_ (d+1:Nat)] (I_ (kZ x.items (d+1)))/\PZ 268 [.sl 12 (x.els.map qK) .none,I_ (d+1:Nat)] (I_ (kZ x.els (d+1)))) :
 PZ 268 [.sl 12 (l.map qK) .none,I_ d] (I_ (kZ l d)):=by
 refine Pure.k qg Tryz.func268 rfl (by kernel_rfl) ?_;have hr:=qmm l d;generalize kZ l d=r at hr;have hd1:IntKind.i64.wrap ((d:Int)+1)=(d+1:Nat):=by rw[wr (by omega) (by omega)];omega
 simp[-getElem?_pos];refine qv.listR l (fun e ev O=>ev 0=.sl 12 (l.map qK) .none/\ev 1=I_ d/\ev 5=I_ e.length/\(∃ H,O=⟨H,[]⟩)/\∀ x∈e,KE x d=0) ?_ ?_ ?_
 . exact⟨by simp,by simp,by simp,⟨_,rfl⟩,by simp⟩
 . rintro e x rest ev O R hR he hxx hlt ⟨h0,h1,h5,⟨H,rfl⟩,hz⟩;have hew:IntKind.i64.wrap ((e.length:Int)+1)=(e.length+1:Nat):=(by rw[wr (by omega) (by omega)];omega);have hxm:=qqW hxx;obtain⟨g1,g2,g3,g4⟩:=hx x hxm;obtain⟨p1,p2⟩:=h x hxm;have hw:=qjt x d (by omega) g1 g2 g3 g4;have hxr:=qf0 x d;have hbad:KE x d≠0->r=KE x d:=fun hn=>by rw[hr,he];exact ja hz hn
   simp only[ql x,qa x.expr,qrd,qrh]at hw;simp[-getElem?_pos,h0,h1,h5,hlt,hxx,ql x,qa x.expr];refine qd.call hw (by simp) ?_;by_cases s0:jD x d=0
   . rw[if_pos s0]at hxr;simp[-getElem?_pos,h0,h1,h5,hxx,ql x,qa x.expr,s0,hd1];refine qd.call p1 (by simp) ?_;by_cases s1:kZ x.items (d+1)=0
     . rw[if_pos s1]at hxr;simp[-getElem?_pos,h0,h1,h5,hxx,ql x,qa x.expr,s1,hd1];refine qd.call p2 (by simp) ?_;by_cases s2:kZ x.els (d+1)=0
       . simp[-getElem?_pos,h5,s2,hew];exact hR _ _ ⟨h0,h1,by simp,⟨_,rfl⟩,zu hz (by rw[hxr,s2])⟩
       . rw[hbad (by rw[hxr];exact s2),hxr];simp[-getElem?_pos,s2]
     . rw[if_neg s1]at hxr;rw[hbad (by rw[hxr];exact s1),hxr];simp[-getElem?_pos,s1]
   . rw[if_neg s0]at hxr;rw[hbad (by rw[hxr];exact s0),hxr];simp[-getElem?_pos,s0]
 . rintro ev O ⟨h0,h1,h5,⟨H,rfl⟩,hz⟩;have:r=0:=by rw[hr];exact qr.2 hz
   subst this;simp[-getElem?_pos,h0,h5]
theorem qhz:∀ x,yF x->Vp x->∀ d:Nat,d+jG x<=100000->PZ 268 [.sl 12 (x.items.map qK) .none,I_ (d+1:Nat)] (I_ (kZ x.items (d+1)))/\PZ 268 [.sl 12 (x.els.map qK) .none,I_ (d+1:Nat)] (I_ (kZ x.els (d+1))):=by
 refine It.ind fun x h1 h2 hh hw d hd=>?_
 have hn:=j6 x;refine⟨JX x.items (d+1) (by omega) (hh x (by rw[qX];simp)).items (fun y hy=>?_) fun y hy=>h1 y hy (hh.itemB hy) (hw.item hy) (d+1) (by have:=yU hy;omega),
  JX x.els (d+1) (by omega) (hh x (by rw[qX];simp)).els (fun y hy=>?_) fun y hy=>h2 y hy (hh.elsB hy) (hw.els hy) (d+1) (by have:=vO hy;omega)⟩
 . have h3:=(hw.item hy).self;have:=ZS y.expr;have:=h3.size;exact⟨hh.itemB hy y (by rw[qX];simp),h3.low,by omega,by omega⟩
 . have h3:=(hw.els hy).self;have:=ZS y.expr;have:=h3.size;exact⟨hh.elsB hy y (by rw[qX];simp),h3.low,by omega,by omega⟩
theorem qju (l:List It)(h:Few l)(hn:∀ x∈l,jG x<=90000):PZ 206 [.sl 12 (l.map qK) .none] (I_ (yf l)):=by
 refine Pure.k qg Tryz.func206 rfl (by kernel_rfl) ?_;have hsz:=qmn l (by have:=h.len;omega) h.holdI;have hv:=JX l 0 (by omega) (by have:=h.len;omega) (fun y hy=>by
  have h3:=(h.wee y hy).self;have:=ZS y.expr;have:=h3.size;exact⟨h.holdI y hy y (by rw[qX];simp),h3.low,by omega,by omega⟩) fun y hy=>qhz y (h.holdI y hy) (h.wee y hy) 0 (by have:=hn y hy;omega)
 rw[qjv]at hv;have hr:yf l=if 64<jj l then 2 else qh (fun y=>jD y.1 y.2.depth) (jl ⟨0,[]⟩ l):=rfl
 generalize yf l=r at hr;generalize qh (fun y=>jD y.1 y.2.depth) (jl ⟨0,[]⟩ l)=q at *;simp[-getElem?_pos];refine qd.call hsz (by simp) ?_;by_cases h64:64<jj l
 . rw[if_pos h64]at hr;subst hr;simp[-getElem?_pos,h64]
 . rw[if_neg h64]at hr;subst hr;simp[-getElem?_pos,h64];refine qd.call (by simpa using hv) (by simp) ?_;simp[-getElem?_pos]
theorem Yu (c:Cls)(s:Str)(hl:Fits c.fields)(hp:∀ a n,qc c a=some n->0<=n)(hs:Fits s):PZ 329 [.agg (qn c),.str s] (I_ (Va (qc c) s)):=by
 refine Pure.k qg Tryz.func329 rfl (by kernel_rfl) ?_;have hf:=fun s=>vJ c s hl
 have hsp:=qaF s hs;simp only[qn]at hf;have hr:Va (qc c) s=match qc c s with
  | some n=>if 0<n then 9 else 0
  | none=>match yb s with
   | some (a,i)=>(match qc c a with | some n=>if n=0 then 9 else if n<=i then 7 else 0 | none=>7)
   | none=>7:=rfl
 generalize Va (qc c) s=r at hr;have hfs:=hf s
 cases hF:qc c s with
 | some n=>
  rw[hF]at hfs hr;simp only at hr;simp[-getElem?_pos];refine qd.call hfs (by simp) ?_;by_cases h0:0<n
  . rw[if_pos h0]at hr;subst hr;simp[-getElem?_pos,h0]
  . rw[if_neg h0]at hr;subst hr;simp[-getElem?_pos,h0]
 | none=>
  rw[hF]at hfs hr;simp only at hr;simp[-getElem?_pos];refine qd.call hfs (by simp) ?_;simp[-getElem?_pos]
  cases he:yb s with
  | none=>
   rw[vy he]at hsp;rw[he]at hr;simp only at hr;subst hr;have hf0:=hf [];refine qd.call hsp (by simp) ?_;simp[-getElem?_pos];refine qd.call hf0 (by simp) ?_;simp[-getElem?_pos]
  | some q=>
   obtain⟨a,i⟩:=q;have hel:=jI.1 he;rw[QW hel]at hsp;rw[he]at hr;simp only at hr;have hfa:=hf a;refine qd.call hsp (by simp) ?_;simp[-getElem?_pos];refine qd.call hfa (by simp) ?_
   cases hFa:qc c a with
   | none=>
    rw[hFa]at hr;simp only at hr;subst hr;simp[-getElem?_pos]
   | some n=>
    have hn:=hp a n hFa;rw[hFa]at hr;simp only at hr;by_cases h0:n=0
    . rw[if_pos h0]at hr;subst hr;simp[-getElem?_pos,h0]
    . have h1:¬ n<1:=(by omega);rw[if_neg h0]at hr;by_cases h2:n<=i
      . rw[if_pos h2]at hr;subst hr;simp[-getElem?_pos,h1,h2]
      . rw[if_neg h2]at hr;subst hr;simp[-getElem?_pos,h1,h2]
theorem qdC {F:yB}{s:Str}(hp:∀ a n,F a=some n->0<=n):(decide (zL F s≠0))=(decide (Va F s≠0)&&decide (W4 F s≠0)):=by
 unfold zL Va W4
 cases hF:F s with
 | none=>simp
 | some n=>
  have:=hp s n hF;simp;omega
theorem qa0 (c:Cls)(l:List Str)(hl:Fits c.fields)(hp:∀ a n,qc c a=some n->0<=n)(hll:Fits l)(hs:∀ s∈l,Fits s):PZ 320 [.agg (qn c),.sl 1 (l.map qs) .none] (.bool (decide (qh (zL (qc c)) l=0))):=by
 refine Pure.k qg Tryz.func320 rfl (by kernel_rfl) ?_;generalize hr:decide (qh (zL (qc c)) l=0)=r;simp[-getElem?_pos];refine qv.listR l (fun d ev O=>ev 1=.sl 1 (l.map qs) .none/\ev 2=.ptr 0 0/\ev 5=I_ d.length/\O.H[0]?=some (.cells [.str c.name,.str c.parent,.sl 5 (c.fields.map q8) .none,.sl 2 (c.blocks.map qR) .none])/\∀ s∈d,zL (qc c) s=0) ?_ ?_ ?_
 . exact⟨by simp,by simp,by simp,by simp,by simp⟩
 . rintro d s rest ev O R hR hd hx hlt ⟨h1,h2,h5,b0,hz⟩;have hdw:IntKind.i64.wrap ((d.length:Int)+1)=(d.length+1:Nat):=(by rw[wr (by omega) (by omega)];omega);have hsm:=qqW hx;have hv:=Yu c s hl hp (hs s hsm);have ha:=qbJ c s hl (hp s);have hei:=qdC (F:=qc c) (s:=s) hp;have hbad:zL (qc c) s≠0->r=false:=fun hn=>by
    rw[<- hr,hd,ja hz hn,decide_eq_false hn]
   simp only[qn]at hv ha;generalize Va (qc c) s=v at *;generalize W4 (qc c) s=w at *;simp[-getElem?_pos,h1,h2,h5,b0,hlt,hx];refine qd.call hv (by simp) ?_;by_cases v0:v=0
   . have:zL (qc c) s=0:=by
      have:decide (zL (qc c) s≠0)=false:=by rw[hei];simp[v0]
      simpa using this
     simp[-getElem?_pos,h5,v0,hdw];exact hR _ _ ⟨h1,h2,by simp,b0,zu hz this⟩
   . simp[-getElem?_pos,h1,h2,h5,b0,hx,v0];refine qd.call ha (by simp) ?_;by_cases w0:w=0
     . have:zL (qc c) s=0:=by
        have:decide (zL (qc c) s≠0)=false:=by rw[hei];simp[w0]
        simpa using this
       simp[-getElem?_pos,h5,w0,hdw];exact hR _ _ ⟨h1,h2,by simp,b0,zu hz this⟩
     . have:zL (qc c) s≠0:=by
        have:decide (zL (qc c) s≠0)=true:=by rw[hei];simp[v0,w0]
        simpa using this
       rw[hbad this];simp[-getElem?_pos,w0]
 . rintro ev O ⟨h1,h2,h5,b0,hz⟩;have:r=true:=by rw[<- hr,qr.2 hz];rfl
   subst this;simp[-getElem?_pos,h1,h5]
def qob (e:Ex):Prop:=∀ (H:List Blk) (T:List (Option Nat)) (s:List Ex),s.length+(pre e).length<=1000000 ->
 qq Zp GG 375 [ye 4 qz T.length s,.agg (qz e)] ⟨H,zG T s⟩ (fun r O'=>r=ye 4 qz T.length (s++pre e)/\∃ t,O'=⟨H++t,zG T (s++pre e)⟩)
theorem qkJ:∀ e,Wen e->qob e:=by
 refine Ex.ind fun e ih hw H T s hlen=>?_
 refine qq.k qg Tryz.func375 rfl (by kernel_rfl) ?_;have hfa:=hw.fits;have app:∀ H,qt (Dof Zp) ⟨H,zG T s⟩ 32 (ye 4 qz T.length s) (.sl 4 [qz e] .tight)=some (ye 4 qz T.length (s++[e]),⟨H,zG T (s++[e])⟩):=fun H=>
  zq (sz:=4) (T:=T) (m:=[e]) D32 rfl D55 rfl (by omega) rfl (by decide) (by have:=zb e;rw[this]at hlen;simp at hlen ⊢;omega) 4 (.inl rfl)
 simp only[qa e]at app;have hpe:pre e=e::ki e.args:=zb e;simp only[qa e];simp[-getElem?_pos,app];refine qv.listR e.args (fun d ev O=>ev 0=ye 4 qz T.length (s++e::ki d)/\ev 3=.ptr H.length 0/\ev 5=I_ d.length/\∃ t,O=⟨H++.cells [I_ e.op,I_ e.n,.str e.name,.sl 4 (e.args.map qz) .none]::t,zG T (s++e::ki d)⟩) ?_ ?_ ?_
 . exact⟨by simp,by simp,by simp,[],by simp⟩
 . rintro d a rest ev O R hR hd hx hlt ⟨h0,h3,h5,t,rfl⟩;have ham:=qqW hx;have hdw:IntKind.i64.wrap ((d.length:Int)+1)=(d.length+1:Nat):=(by rw[wr (by omega) (by omega)];omega);have hlen2:(s++e::ki d).length+(pre a).length<=1000000:=by
    rw[hpe,hd]at hlen;simp[yO]at hlen ⊢;omega
   have hi:=ih a ham (hw.arg ham) (H++.cells [I_ e.op,I_ e.n,.str e.name,.sl 4 (e.args.map qz) .none]::t) T (s++e::ki d) hlen2;have hpl:s++e::ki d++pre a=s++e::ki (d++[a]):=(by simp[yO]);rw[hpl]at hi;simp only[qa a]at hi;simp[-getElem?_pos,h0,h3,h5,hlt,hx,qa a];refine qd.acall hi ?_;rintro v O' ⟨rfl,t',rfl⟩;simp[-getElem?_pos,h5,hdw];exact hR _ _ ⟨by simp,h3,by simp,t++t',by simp⟩
 . rintro ev O ⟨h0,h3,h5,t,rfl⟩;rw[<- hpe]at h0 ⊢;simp[-getElem?_pos,h0,h3,h5]
theorem qjB (e:Ex)(hw:Wen e)(hl:(pre e).length<=1000000):PZ 328 [.agg (qz e)] (.sl 4 ((pre e).map qz) .none):=by
 refine Pure.k qg Tryz.func328 rfl (by kernel_rfl) ?_;have h:=qkJ e hw [.cells (qz e)] [] [] (by simpa using hl);simp only[qa e,qmS,qjY,qrh]at h;simp only[qa e];simp[-getElem?_pos];refine qd.acall h ?_;rintro v O' ⟨rfl,t,rfl⟩;have q:=Qh (sz:=4) (en:=qz) (s:=pre e);simp[-getElem?_pos]
theorem qgV (e:Ex)(c:Cls)(bd:List Str)(hw:Wen e)(hlen:(pre e).length<=1000000)(hl:Fits c.fields)(hp:∀ a n,qc c a=some n->0<=n)(hbd:Fits bd) :
 PZ 279 [.agg (qz e),.agg (qn c),sS bd] (I_ (Ql (qc c) bd e)):=by
 refine Pure.k qg Tryz.func279 rfl (by kernel_rfl) ?_;have hr:Ql (qc c) bd e=qh (Qu (qc c) bd) (pre e):=rfl;generalize Ql (qc c) bd e=r at hr;have hn:=qjB e hw hlen;simp only[qa e]at hn;simp only[qa e];simp[-getElem?_pos];refine qd.call hn (by simp) ?_;simp[-getElem?_pos];refine qv.listR (pre e) (fun d ev O=>ev 2=sS bd/\ev 4=.ptr 1 0/\ev 7=.sl 4 ((pre e).map qz) .none/\ev 8=I_ d.length/\O.H[1]?=some (.cells [.str c.name,.str c.parent,sF c.fields,sB c.blocks])/\∀ x∈d,Qu (qc c) bd x=0) ?_ ?_ ?_
 . exact⟨by simp,by simp,by simp,by simp,by simp,by simp⟩
 . rintro d x rest ev O R hR hd hx hlt ⟨h2,h4,h7,h8,b1,hz⟩;have hxm:x∈pre e:=qqW hx;have hfx:Fits x.name:=(hw x hxm).2;have hdw:=wq (n:=d.length) (by omega);have hnd:Qu (qc c) bd x=if x.op=2 then (if bd.contains x.name=true then 0 else Va (qc c) x.name) else if x.op=3\/x.op=24 then W4 (qc c) x.name else 0:=rfl
   have hbad:Qu (qc c) bd x≠0->r=Qu (qc c) bd x:=fun h=>by rw[hr,hd];exact ja hz h
   have hv:=Yu c x.name hl hp hfx;have ha:=qbJ c x.name hl (hp x.name);have hbo:=qgT bd x.name hbd;have hgo:Qu (qc c) bd x=0->∀ ev',(ev' 2=sS bd/\ev' 4=.ptr 1 0/\ev' 7=.sl 4 ((pre e).map qz) .none/\ev' 8=I_ (d.length+1:Nat))->R ev' O:=fun h ev' hh=>by
    obtain⟨k2,k4,k7,k8⟩:=hh;exact hR _ _ ⟨k2,k4,k7,by rw[k8];simp,b1,zu hz h⟩
   simp only[qn]at hv ha;generalize Qu (qc c) bd x=q at hnd hbad hgo;generalize Va (qc c) x.name=vv at *;generalize W4 (qc c) x.name=aa at *;generalize bd.contains x.name=bb at *;by_cases k2:x.op=2
   . rw[if_pos k2]at hnd;simp[-getElem?_pos,h2,h7,h8,hlt,hx,qa x,k2];refine qd.call hbo (by simp) ?_
     cases bb with
     | true=>
      simp at hnd;simp[-getElem?_pos,h7,h8,hx,qa x,k2,hdw];exact hgo hnd _ ⟨h2,h4,h7,by simp⟩
     | false=>
      simp at hnd;simp[-getElem?_pos,h4,h7,h8,b1,hx,qa x,k2];refine qd.call hv (by simp) ?_;by_cases v0:vv=0
      . simp[-getElem?_pos,h7,h8,hx,qa x,k2,hdw,v0];exact hgo (by rw[hnd,v0]) _ ⟨h2,h4,h7,by simp⟩
      . rw[hbad (by rw[hnd];exact v0),hnd];simp[-getElem?_pos,h7,h8,hx,qa x,k2,hdw,v0]
   . rw[if_neg k2]at hnd;by_cases k3:x.op=3
     . rw[if_pos (.inl k3)]at hnd;simp[-getElem?_pos,h4,h7,h8,b1,hlt,hx,qa x,k3];refine qd.call ha (by simp) ?_;by_cases v0:aa=0
       . simp[-getElem?_pos,h8,hdw,v0];exact hgo (by rw[hnd,v0]) _ ⟨h2,h4,h7,by simp⟩
       . rw[hbad (by rw[hnd];exact v0),hnd];simp[-getElem?_pos,h8,hdw,v0]
     . by_cases k24:x.op=24
       . rw[if_pos (.inr k24)]at hnd;simp[-getElem?_pos,h4,h7,h8,b1,hlt,hx,qa x,k24];refine qd.call ha (by simp) ?_;by_cases v0:aa=0
         . simp[-getElem?_pos,h8,hdw,v0];exact hgo (by rw[hnd,v0]) _ ⟨h2,h4,h7,by simp⟩
         . rw[hbad (by rw[hnd];exact v0),hnd];simp[-getElem?_pos,h8,hdw,v0]
       . rw[if_neg (by omega)]at hnd;simp[-getElem?_pos,h2,h4,h7,h8,b1,hlt,hx,qa x,k2,k3,k24,hdw];exact hgo hnd _ ⟨h2,h4,h7,by simp⟩
 . rintro ev O ⟨h2,h4,h7,h8,b1,hz⟩;have:r=0:=by rw[hr];exact qr.2 hz
   subst this;simp[-getElem?_pos,h7,h8]
theorem one269 (x:It)(c:Cls)(bd:List Str)(h:Hold1 x)(hlen:(pre x.expr).length<=1000000)(hl:Fits c.fields)(hp:∀ a n,qc c a=some n->0<=n)(hbd:Fits bd) :
 PZ 269 [.agg (qK x),.agg (qn c),sS bd] (I_ (vT (qc c) x bd)):=by
 refine Pure.k qg Tryz.func269 rfl (by kernel_rfl) ?_;have hr:vT (qc c) x bd=if x.kind=3 then zL (qc c) x.name
  else if x.kind=6 then qh (zL (qc c)) (x.before++x.after)
  else if x.kind=5 then (if W4 (qc c) x.name≠0 then W4 (qc c) x.name else if (qc c x.index).isSome=true\/bd.contains x.index=true then 8 else 0)
  else Ql (qc c) bd x.expr:=rfl
 have hei:∀ s,zL (qc c) s=0\/zL (qc c) s=7:=fun s=>by unfold zL;split<;>simp
 have h3:=qa0 c [x.name] hl hp (by simp) (by simpa using h.name);have hb:=qa0 c x.before hl hp h.before fun s hs=>h.names s (qrD _ hs)
 have ha:=qa0 c x.after hl hp h.after fun s hs=>h.names s (qrK _ hs)
 have has:=qgV x.expr c bd h.expr hlen hl hp hbd;have har:=qbJ c x.name hl (hp x.name);have hfi:=vJ c x.index hl;have hbo:=qgT bd x.index hbd;have hfirst:∀ l:List Str,qh (zL (qc c)) l=0\/qh (zL (qc c)) l=7:=fun l=>by
  induction l with
  | nil=>simp[qh]
  | cons a r ih=>
   rw[qh];split
   . exact ih
   . exact hei a
 simp only[qn,qa x.expr]at h3 hb ha has har hfi;generalize vT (qc c) x bd=r at hr;simp only[ql x,qa x.expr];by_cases k3:x.kind=3
 . rw[if_pos k3]at hr;rcases hei x.name with e|e
   all_goals
    simp only[qh,qqZ,qq9,qs,e]at h3;simp at h3;rw[e]at hr;subst hr;simp[-getElem?_pos,k3];refine qd.less h3 (by simp) (by simp[zt,Leq]) ?_;simp[-getElem?_pos]
 rw[if_neg k3]at hr;by_cases k6:x.kind=6
 . rw[if_pos k6,qT]at hr;rcases hfirst x.before with e|e
   . rw[if_pos e]at hr;rcases hfirst x.after with e2|e2
     all_goals
      simp only[e]at hb;simp only[e2]at ha;simp at hb ha;rw[e2]at hr;subst hr;simp[-getElem?_pos,k6];refine qd.call hb (by simp) ?_;simp[-getElem?_pos];refine qd.call ha (by simp) ?_;simp[-getElem?_pos]
   . rw[if_neg (by omega),e]at hr;simp only[e]at hb;simp at hb;subst hr;simp[-getElem?_pos,k6];refine qd.call hb (by simp) ?_;simp[-getElem?_pos]
 rw[if_neg k6]at hr;by_cases k5:x.kind=5
 . rw[if_pos k5]at hr;simp[-getElem?_pos,k5];refine qd.call har (by simp) ?_;by_cases a0:W4 (qc c) x.name=0
   . rw[if_neg (by simp[a0])]at hr;simp[-getElem?_pos,a0];refine qd.call hfi (by simp) ?_
     cases hs:(qc c x.index).isSome with
     | true=>
      rw[if_pos (.inl hs)]at hr;subst hr;simp[-getElem?_pos]
     | false=>
      simp[-getElem?_pos];refine qd.call hbo (by simp) ?_
      cases hc:bd.contains x.index with
      | true=>
       rw[if_pos (.inr hc)]at hr;subst hr;simp[-getElem?_pos]
      | false=>
       rw[if_neg (by rw[hs,hc];simp)]at hr;subst hr;simp[-getElem?_pos]
   . rw[if_pos a0]at hr;rw[hr];simp[-getElem?_pos,a0]
 . rw[if_neg k5]at hr;rw[hr];simp[-getElem?_pos,k3,k5,k6];refine qd.call has (by simp) ?_;simp[-getElem?_pos]
theorem qnl (x:It)(bd:List Str)(hbd:bd.length<=1000000):PZ 270 [.agg (qK x),sS bd] (.sl 1 ((if x.kind=5 then bd++[x.index] else bd).map qs) .none):=by
 refine Pure.k qg Tryz.func270 rfl (by kernel_rfl) ?_;simp only[ql x,qa x.expr];have hb1:bd.length<=1073741824:=by omega
 by_cases k5:x.kind=5
 . cases bd with
   | nil=>simp[-getElem?_pos,k5,qt,qI,zD,zc]
   | cons a r=>
    have hb2:r.length+1<=1073741824:=(by simpa using hb1);have hb3:r.length+1+1<=1073741824:=(by simp at hbd;omega);simp[-getElem?_pos,k5,qt,qI,zD,zc,hb2,hb3,zd]
 . cases bd with
   | nil=>simp[-getElem?_pos,k5,qt,qI,zD,zc]
   | cons a r=>
    have hb2:r.length+1<=1073741824:=(by simpa using hb1);simp[-getElem?_pos,k5,qt,qI,zD,zc,hb2]
def qgu (x:It)(bd:List Str):List Str:=if x.kind=5 then bd++[x.index] else bd
mutual
noncomputable def KP (F:yB):It->List Str->Int
 | .mk k e n i w l m b a,bd=>if vT F (.mk k e n i w l m b a) bd=0 then (if wB F l (qgu (.mk k e n i w l m b a) bd)=0 then wB F m bd else wB F l (qgu (.mk k e n i w l m b a) bd)) else vT F (.mk k e n i w l m b a) bd
noncomputable def wB (F:yB):List It->List Str->Int
 | [],_=>0
 | x::r,bd=>if KP F x bd=0 then wB F r bd else KP F x bd
end
theorem qf8 (F:yB)(x:It)(bd:List Str):KP F x bd=if vT F x bd=0 then (if wB F x.items (qgu x bd)=0 then wB F x.els bd else wB F x.items (qgu x bd)) else vT F x bd:=by
 cases x;simp only[KP];rfl
theorem qmv (F:yB)(l:List It)(bd:List Str):wB F l bd=qh (fun x=>KP F x bd) l:=by
 induction l with
 | nil=>simp[wB,qh]
 | cons x r ih=>simp only[wB,qh,ih]
theorem qmu (F:yB):∀ (x:It) (p:Place),KP F x p.bound=qh (fun y=>vT F y.1 y.2.bound) (qg8 p x):=by
 refine It.ind fun x h1 h2 p=>?_
 have key:∀ (l:List It) (q:Place),(∀ a∈l,∀ p:Place,KP F a p.bound=qh (fun y=>vT F y.1 y.2.bound) (qg8 p a))->wB F l q.bound=qh (fun y=>vT F y.1 y.2.bound) (jl q l):=by
  intro l q
  induction l with
  | nil=>intro _;simp[wB,qh]
  | cons a r ih=>
   intro h;rw[vH,qT,<- h a (by simp) q,wB,ih fun y hy=>h y (by simp[hy])]
 rw[qf8,v8,qh,qT,<- key x.items (ym x p) h1,<- key x.els (jx x p) h2,QR,QS];rfl
theorem qjH (F:yB)(l:List It):wB F l []=qh (fun y=>vT F y.1 y.2.bound) (jl ⟨0,[]⟩ l):=by
 induction l with
 | nil=>simp[wB,qh]
 | cons x r ih=>rw[vH,qT,wB,ih,show KP F x []=_ from qmu F x ⟨0,[]⟩]
theorem WT (c:Cls)(hf:Fits c.fields)(hp:∀ a n,qc c a=some n->0<=n)(l:List It)(bd:List Str)(hbd:bd.length<=100000)(hl:Fits l)(hx:∀ x∈l,Hold1 x/\(pre x.expr).length<=1000000)
 (h:∀ x∈l,PZ 207 [.sl 12 (x.items.map qK) .none,.agg (qn c),.sl 1 ((qgu x bd).map qs) .none] (I_ (wB (qc c) x.items (qgu x bd)))/\PZ 207 [.sl 12 (x.els.map qK) .none,.agg (qn c),.sl 1 (bd.map qs) .none] (I_ (wB (qc c) x.els bd))) :
 PZ 207 [.sl 12 (l.map qK) .none,.agg (qn c),.sl 1 (bd.map qs) .none] (I_ (wB (qc c) l bd)):=by
 refine Pure.k qg Tryz.func207 rfl (by kernel_rfl) ?_;have hr:=qmv (qc c) l bd;generalize wB (qc c) l bd=r at hr;simp[-getElem?_pos];refine qv.listR l (fun e ev O=>ev 0=.sl 12 (l.map qK) .none/\ev 2=.sl 1 (bd.map qs) .none/\ev 4=.ptr 0 0/\ev 7=I_ e.length/\O.H[0]?=some (.cells [.str c.name,.str c.parent,.sl 5 (c.fields.map q8) .none,.sl 2 (c.blocks.map qR) .none])/\∀ x∈e,KP (qc c) x bd=0) ?_ ?_ ?_
 . exact⟨by simp,by simp,by simp,by simp,by simp,by simp⟩
 . rintro e x rest ev O R hR he hxx hlt ⟨h0,h2,h4,h7,b0,hz⟩;have hew:IntKind.i64.wrap ((e.length:Int)+1)=(e.length+1:Nat):=(by rw[wr (by omega) (by omega)];omega);have hxm:=qqW hxx;obtain⟨g1,g2⟩:=hx x hxm;obtain⟨p1,p2⟩:=h x hxm;have hw:=one269 x c bd g1 g2 hf hp (by omega);have hin:=qnl x bd (by omega);have hxr:=qf8 (qc c) x bd;have hbad:KP (qc c) x bd≠0->r=KP (qc c) x bd:=fun hn=>by rw[hr,he];exact ja hz hn
   rw[show (if x.kind=5 then bd++[x.index] else bd)=qgu x bd from rfl]at hin;simp only[ql x,qa x.expr,qrd,qrh,qn]at hw hin;simp only[qn]at p1 p2;generalize vT (qc c) x bd=s0 at *;generalize wB (qc c) x.items (qgu x bd)=s1 at *;generalize wB (qc c) x.els bd=s2 at *;generalize qgu x bd=ib at *;simp[-getElem?_pos,h0,h2,h4,h7,b0,hlt,hxx,ql x,qa x.expr];refine qd.call hw (by simp) ?_;by_cases e0:s0=0
   . rw[if_pos e0]at hxr;simp[-getElem?_pos,h0,h2,h4,h7,b0,hxx,ql x,qa x.expr,e0];refine qd.call hin (by simp) ?_;simp[-getElem?_pos];refine qd.call p1 (by simp) ?_;by_cases e1:s1=0
     . rw[if_pos e1]at hxr;simp[-getElem?_pos,h0,h2,h4,h7,b0,hxx,ql x,qa x.expr,e1];refine qd.call p2 (by simp) ?_;by_cases e2:s2=0
       . simp[-getElem?_pos,h7,e2,hew];exact hR _ _ ⟨h0,h2,h4,by simp,b0,zu hz (by rw[hxr,e2])⟩
       . rw[hbad (by rw[hxr];exact e2),hxr];simp[-getElem?_pos,e2]
     . rw[if_neg e1]at hxr;rw[hbad (by rw[hxr];exact e1),hxr];simp[-getElem?_pos,e1]
   . rw[if_neg e0]at hxr;rw[hbad (by rw[hxr];exact e0),hxr];simp[-getElem?_pos,e0]
 . rintro ev O ⟨h0,h2,h4,h7,b0,hz⟩;have:r=0:=by rw[hr];exact qr.2 hz
   subst this;simp[-getElem?_pos,h0,h7]
theorem qnm {x:It}{bd:List Str}:(qgu x bd).length<=bd.length+1:=by unfold qgu;split<;>simp
theorem qlk (c:Cls)(hf:Fits c.fields)(hp:∀ a n,qc c a=some n->0<=n):∀ x,yF x->Vp x->∀ bd:List Str,bd.length+jG x<=100000 ->
 PZ 207 [.sl 12 (x.items.map qK) .none,.agg (qn c),.sl 1 ((qgu x bd).map qs) .none] (I_ (wB (qc c) x.items (qgu x bd)))/\PZ 207 [.sl 12 (x.els.map qK) .none,.agg (qn c),.sl 1 (bd.map qs) .none] (I_ (wB (qc c) x.els bd)):=by
 refine It.ind fun x h1 h2 hh hw bd hd=>?_
 have hn:=j6 x;have hi:=qnm (x:=x) (bd:=bd);refine⟨WT c hf hp x.items (qgu x bd) (by omega) (hh x (by rw[qX];simp)).items (fun y hy=>?_) fun y hy=>h1 y hy (hh.itemB hy) (hw.item hy) _ (by have:=yU hy;omega),
  WT c hf hp x.els bd (by omega) (hh x (by rw[qX];simp)).els (fun y hy=>?_) fun y hy=>h2 y hy (hh.elsB hy) (hw.els hy) _ (by have:=vO hy;omega)⟩
 . have h3:=(hw.item hy).self.size;exact⟨hh.itemB hy y (by rw[qX];simp),by omega⟩
 . have h3:=(hw.els hy).self.size;exact⟨hh.elsB hy y (by rw[qX];simp),by omega⟩
theorem qcw (l:List It)(c:Cls)(h:Few l)(hn:∀ x∈l,jG x<=90000)(hf:Fits c.fields)(hp:∀ a n,qc c a=some n->0<=n):PZ 137 [.sl 12 (l.map qK) .none,.agg (qn c)] (I_ (jJ (qc c) l)):=by
 refine Pure.k qg Tryz.func137 rfl (by kernel_rfl) ?_;have hv:=qju l h hn;have hc:=WT c hf hp l [] (by simp) (by have:=h.len;omega) (fun y hy=>by
  have h3:=(h.wee y hy).self.size;exact⟨h.holdI y hy y (by rw[qX];simp),by omega⟩) fun y hy=>qlk c hf hp y (h.holdI y hy) (h.wee y hy) [] (by have:=hn y hy;simp;omega)
 rw[qjH]at hc;have hr:jJ (qc c) l=if yf l≠0 then yf l else qh (fun y=>vT (qc c) y.1 y.2.bound) (jl ⟨0,[]⟩ l):=rfl
 generalize jJ (qc c) l=r at hr;generalize yf l=v at *;generalize qh (fun y=>vT (qc c) y.1 y.2.bound) (jl ⟨0,[]⟩ l)=q at *;simp only[qn,qq9]at hc;simp[-getElem?_pos];refine qd.call hv (by simp) ?_;by_cases h0:v=0
 . rw[if_neg (by simp[h0])]at hr;rw[hr];simp[-getElem?_pos,h0];refine qd.less hc (by simp) (by simp[zt,Leq]) ?_;simp[-getElem?_pos]
 . rw[if_pos h0]at hr;rw[hr];simp[-getElem?_pos,h0]
def qio (f:It->List It)(out:List It)(x:It):List It:=if out.length<=400 then out++f x else out
def Z5 (f:It->List It)(l:List It):List It:=l.foldl (qio f) []
theorem qqD {f:It->List It}:Z5 f []=[]:=rfl
theorem qnT {f:It->List It}{d:List It}{x:It}:Z5 f (d++[x])=qio f (Z5 f d) x:=by
 unfold Z5;rw[qsL];rfl
theorem Wr {f:It->List It}:∀ (r out:List It),400<out.length->r.foldl (qio f) out=out
 | [],_,_=>rfl
 | x::r,out,h=>by
  have:qio f out x=out:=by unfold qio;rw[if_neg (by omega)]
  rw[qrP,this,Wr r out h]
theorem qnU {f:It->List It}{d r:List It}(h:400<(Z5 f d).length):Z5 f (d++r)=Z5 f d:=by
 unfold Z5 at h⊢;rw[qsL,Wr r _ h]
theorem ZW {f:It->List It}{B:Nat}:∀ {l:List It},(∀ x∈l,(f x).length<=B)->(Z5 f l).length<=400+B:=by
 intro l;have:∀ (l out:List It),out.length<=400+B->(∀ x∈l,(f x).length<=B)->(l.foldl (qio f) out).length<=400+B:=by
  intro l
  induction l with
  | nil=>intro out h _;exact h
  | cons a r ih=>
   intro out h hx;refine ih _ ?_ fun x hx'=>hx x (by simp[hx'])
   unfold qio;split
   . have:=hx a (by simp);rw[qqY];omega
   . exact h
 exact fun h=>this l [] (by simp) h
def jE (F:yB):Nat->Option Ex->It->List It
 | 0,_,_=>[]
 | h+1,c,x=>
  if x.kind=1\/x.kind=2 then [Zt x.kind (zm c 21 x.expr)]
  else if x.kind=4 then Z5 (jE F h (some (zm c 19 x.expr))) x.items++Z5 (jE F h (some (zm c 19 (YO x.expr)))) x.els
  else if x.kind=5 then (List.range ((F x.name).getD 0).toNat).flatMap fun (k:Nat)=>Z5 (jE F h c) (x.items.map (zF x.index (zI (k:Int))))
  else [x]
theorem qf6 {F:yB}(h8:∀ s,(F s).getD 0<=8):∀ (h:Nat) (c:Option Ex) (x:It),(jE F h c x).length<=2000*10 ^ h
 | 0,_,_=>by simp[jE]
 | h+1,c,x=>by
  have ih:=qf6 h8 h;have hp:0<10 ^ h:=Nat.pow_pos (by omega);have e10:10 ^ (h+1)=10*10 ^ h:=by rw[Nat.pow_succ];omega
  simp only[jE];split
  . simp;omega
  split
  . have a:=ZW (l:=x.items) fun y _=>ih (some (zm c 19 x.expr)) y
    have b:=ZW (l:=x.els) fun y _=>ih (some (zm c 19 (YO x.expr))) y
    rw[qqY];omega
  split
  . have h8':=h8 x.name;have key:∀ m:Nat,m<=8->((List.range m).flatMap fun (k:Nat)=>Z5 (jE F h c) (x.items.map (zF x.index (zI (k:Int))))).length<=m*(400+2000*10 ^ h):=by
     intro m
     induction m with
     | zero=>simp
     | succ m ihm=>
      intro hm;have a:=ihm (by omega);have b:=ZW (f:=jE F h c) (l:=x.items.map (zF x.index (zI (m:Int)))) fun y _=>ih c y
      rw[qrX,qsG,qqY];simp only[qrm,qs2,qrl];rw[qse];omega
    have:=key ((F x.name).getD 0).toNat (by omega);have h9:((F x.name).getD 0).toNat*(400+2000*10 ^ h)<=8*(400+2000*10 ^ h):=qrJ _ (by omega);omega
  . simp;omega
theorem qac (c:Cls)(hf:Fits c.fields)(h8:∀ s,(qc c s).getD 0<=8)(h:Nat)(h5:h+1<=5)(cd:Option Ex)(l:List It)(hl:l.length<=1000)(hlo:∀ x∈l,W9 x)
 (hx:∀ x∈l,∀ (cd':Option Ex) (l':List It),(l'=x.items\/l'=x.els\/∃ k:Nat,l'=x.items.map (zF x.index (zI (k:Int))))->PZ 208 [.sl 12 (l'.map qK) .none,.agg (qn c),.sl 4 ((YS cd').map qz) .none] (.sl 12 ((Z5 (jE (qc c) h cd') l').map qK) .none)) :
 PZ 208 [.sl 12 (l.map qK) .none,.agg (qn c),.sl 4 ((YS cd).map qz) .none] (.sl 12 ((Z5 (jE (qc c) (h+1) cd) l).map qK) .none):=by
 refine Pure.k qg Tryz.func208 rfl (by kernel_rfl) ?_;have hlen:=qf6 h8;have hB:2000*10 ^ (h+1)<=200000000:=by
  have:h=0\/h=1\/h=2\/h=3\/h=4:=by omega
  rcases this with rfl|rfl|rfl|rfl|rfl<;>decide
 have hB1:2000*10 ^ h<=20000000:=by
  have:h=0\/h=1\/h=2\/h=3\/h=4:=by omega
  rcases this with rfl|rfl|rfl|rfl|rfl<;>decide
 have hB0:2000*10 ^ h<=2000*10 ^ (h+1):=Nat.mul_le_mul_left _ (Nat.pow_le_pow_right (by omega) (by omega));simp[-getElem?_pos];refine qv.listR l (fun d ev O=>ev 0=.sl 12 (l.map qK) .none/\ev 2=.sl 4 ((YS cd).map qz) .none/\ev 4=.ptr 0 0/\ev 8=.int .i64 d.length/\∃ rows t,ev 7=ye 12 YL 0 rows/\O=⟨.cells [.str c.name,.str c.parent,.sl 5 (c.fields.map q8) .none,.sl 2 (c.blocks.map qR) .none]::t,zG [] rows⟩/\yL rows ((Z5 (jE (qc c) (h+1) cd) d).map qK)/\zp rows=true) ?_ ?_ ?_
 . exact⟨by simp,by simp,by simp,by simp,[],[],by simp,by simp,by simp[qqD],rfl⟩
 . rintro d x rest ev O R hR hd hxx hlt ⟨h0,h2,h4,h8',rows,t,h7,rfl,hrl,hnr⟩;have hxm:=qqW hxx;have hdw:=wq (n:=d.length) (by omega);have hrn:=yL.len _ _ hrl;rw[qrv]at hrn;have hsn:=qnT (f:=jE (qc c) (h+1) cd) (d:=d) (x:=x);have hcl:=ZW (f:=jE (qc c) (h+1) cd) (l:=d) fun y _=>hlen (h+1) cd y
   have hov:=qnU (f:=jE (qc c) (h+1) cd) (d:=d) (r:=x::rest);rw[<- hd]at hov;have hll:∀ O,kw (Dof Zp) O 24 (.sl 12 (l.map qK) .none)=some (.int .i64 l.length):=fun O=>by simp[kw]
   have hlr:=fun O=>qgp (D:=Dof Zp) (O:=O) (sz:=12) (t:=0) (s:=rows) D24 rfl
   by_cases hgo:(Z5 (jE (qc c) (h+1) cd) d).length<=400
   . have hgo':(rows.length:Int)<=400:=(by omega);have hgo2:rows.length<=400:=(by omega);unfold qio at hsn;rw[if_pos hgo]at hsn;have hlx:=hlen (h+1) cd x;have hR':∀ ev' rows' t',(ev' 0=.sl 12 (l.map qK) .none/\ev' 2=.sl 4 ((YS cd).map qz) .none/\ev' 4=.ptr 0 0/\ev' 7=ye 12 YL 0 rows'/\ev' 8=.int .i64 (d.length+1:Nat))->yL rows' ((Z5 (jE (qc c) (h+1) cd) d++jE (qc c) (h+1) cd x).map qK)->zp rows'=true->R ev' ⟨.cells [.str c.name,.str c.parent,.sl 5 (c.fields.map q8) .none,.sl 2 (c.blocks.map qR) .none]::t',zG [] rows'⟩:=fun ev' rows' t' hh hq hn=>by
      obtain⟨a0,a2,a4,a7,a8⟩:=hh;exact hR _ _ ⟨a0,a2,a4,by rw[a8];simp,rows',t',a7,rfl,by rw[hsn];exact hq,hn⟩
     have app:=fun (H:List Blk) (T0:Unit) (rs m:List (List AV)) (tok:Abs.Tok) (hb:rs.length+m.length<=1073741824)=>qfB (D:=Dof Zp) (H:=H) (T:=[]) (s:=rs) (m:=m) (tok:=tok) D24 rfl D68 rfl (by omega:0<12) rfl (by decide) hb
     generalize Z5 (jE (qc c) (h+1) cd) d=out at *;by_cases k1:x.kind=1
     . have hfx:jE (qc c) (h+1) cd x=[Zt 1 (zm cd 21 x.expr)]:=(by simp only[jE];rw[if_pos (by omega),k1]);rw[hfx]at hR';have hun:=YY 21 cd x.expr;generalize zm cd 21 x.expr=E at *;have happ:=fun H=>app H () rows [[.int .i64 1,.int .i64 E.op,.int .i64 E.n,.str E.name,.sl 4 (E.args.map qz) .none,.str [],.str [],.sl 0 [] .nil,.sl 0 [] .nil,.sl 0 [] .nil,.sl 0 [] .nil,.sl 0 [] .nil]] .tight (by simp;omega)
       simp only[qrt]at happ;have hlq:yL [[.int .i64 1,.int .i64 E.op,.int .i64 E.n,.str E.name,.sl 4 (E.args.map qz) .none,.str [],.str [],.sl 0 [] .nil,.sl 0 [] .nil,.sl 0 [] .nil,.sl 0 [] .nil,.sl 0 [] .nil]] ([Zt 1 E].map qK):=by
        simp[yL,ql,Zt,It.kind,It.expr,It.name,It.index,It.ws,It.items,It.els,It.before,It.after,qa E,zt,Leq]
       simp only[qa x.expr,qa E]at hun;simp[-getElem?_pos,-kw,h0,h2,h7,h8',hlt,hxx,hlr,hll,hgo',ql x,qa x.expr,k1];refine qd.call hun (by simp) ?_;simp[-getElem?_pos,-kw,h8',happ,hdw];exact hR' _ _ _ ⟨h0,h2,h4,by simp,by simp⟩ (by rw[qrf];exact yL.app hrl hlq) (by rw[zd,hnr];simp)
     by_cases k2:x.kind=2
     . have hfx:jE (qc c) (h+1) cd x=[Zt 2 (zm cd 21 x.expr)]:=(by simp only[jE];rw[if_pos (by omega),k2]);rw[hfx]at hR';have hun:=YY 21 cd x.expr;generalize zm cd 21 x.expr=E at *;have happ:=fun H=>app H () rows [[.int .i64 2,.int .i64 E.op,.int .i64 E.n,.str E.name,.sl 4 (E.args.map qz) .none,.str [],.str [],.sl 0 [] .nil,.sl 0 [] .nil,.sl 0 [] .nil,.sl 0 [] .nil,.sl 0 [] .nil]] .tight (by simp;omega)
       simp only[qrt]at happ;have hlq:yL [[.int .i64 2,.int .i64 E.op,.int .i64 E.n,.str E.name,.sl 4 (E.args.map qz) .none,.str [],.str [],.sl 0 [] .nil,.sl 0 [] .nil,.sl 0 [] .nil,.sl 0 [] .nil,.sl 0 [] .nil]] ([Zt 2 E].map qK):=by
        simp[yL,ql,Zt,It.kind,It.expr,It.name,It.index,It.ws,It.items,It.els,It.before,It.after,qa E,zt,Leq]
       simp only[qa x.expr,qa E]at hun;simp[-getElem?_pos,-kw,h0,h2,h7,h8',hlt,hxx,hlr,hll,hgo',ql x,qa x.expr,k2];refine qd.call hun (by simp) ?_;simp[-getElem?_pos,-kw,h8',happ,hdw];exact hR' _ _ _ ⟨h0,h2,h4,by simp,by simp⟩ (by rw[qrf];exact yL.app hrl hlq) (by rw[zd,hnr];simp)
     by_cases k4:x.kind=4
     . have hfx:jE (qc c) (h+1) cd x=Z5 (jE (qc c) h (some (zm cd 19 x.expr))) x.items++Z5 (jE (qc c) h (some (zm cd 19 (YO x.expr)))) x.els:=(by simp only[jE];rw[if_neg (by omega),if_pos k4]);rw[hfx]at hR';have hun1:=YY 19 cd x.expr;have hun2:=YY 19 cd (YO x.expr);have hq1:=hx x hxm (some (zm cd 19 x.expr)) x.items (.inl rfl);have hq2:=hx x hxm (some (zm cd 19 (YO x.expr))) x.els (.inr (.inl rfl));have hl1:=ZW (l:=x.items) fun y _=>hlen h (some (zm cd 19 x.expr)) y
       have hl2:=ZW (l:=x.els) fun y _=>hlen h (some (zm cd 19 (YO x.expr))) y
       generalize Z5 (jE (qc c) h (some (zm cd 19 x.expr))) x.items=A at *;generalize Z5 (jE (qc c) h (some (zm cd 19 (YO x.expr)))) x.els=B at *;generalize zm cd 19 x.expr=E1 at *;generalize zm cd 19 (YO x.expr)=E2 at *;have happ1:=fun H=>app H () rows (A.map qK) .none (by simp;omega)
       have happ2:=fun H=>app H () (rows++A.map qK) (B.map qK) .none (by simp;omega)
       simp only[qrt]at happ1 happ2;simp only[qa x.expr,qa E1]at hun1;simp only[qa E2]at hun2;simp only[YS,qqZ,qq9,qa E1,qn]at hq1;simp only[YS,qqZ,qq9,qa E2,qn]at hq2;simp[-getElem?_pos,-kw,h0,h2,h4,h7,h8',hlt,hxx,hlr,hll,hgo',ql x,qa x.expr,k4];refine qd.call hun1 (by simp) ?_;simp[-getElem?_pos,-kw];refine qd.less hq1 (by simp) (by simp[zt,Leq]) ?_;simp[-getElem?_pos,-kw,h2,h4,happ1];refine qd.less hun2 (by simp) (by simp[zt,Leq,YO,qa]) ?_;simp[-getElem?_pos,-kw];refine qd.less hq2 (by simp) (by simp[zt,Leq]) ?_;simp[-getElem?_pos,-kw,h8',happ2,hdw];refine hR' _ _ _ ⟨h0,h2,h4,by simp,by simp⟩ ?_ (by rw[zd,zd,hnr];simp);rw[qrf,qrf];exact yL.app hrl (yL.refl _)
     by_cases k5:x.kind=5
     . have hfx:jE (qc c) (h+1) cd x=(List.range ((qc c x.name).getD 0).toNat).flatMap fun (k:Nat)=>Z5 (jE (qc c) h cd) (x.items.map (zF x.index (zI (k:Int)))):=by simp only[jE];rw[if_neg (by omega),if_neg k4,if_pos k5]
       rw[hfx]at hR' hlx;have hfi:=vJ c x.name hf;have h8n:=h8 x.name;have hq:=fun k:Nat=>hx x hxm cd (x.items.map (zF x.index (zI (k:Int)))) (.inr (.inr ⟨k,rfl⟩))
       have hre:=fun k:Nat=>qeu x.index (zI (k:Int)) x.items (hlo x hxm).self.items fun y hy=>(hlo x hxm).item hy
       have hco:=fun k:Nat=>Kc (k:Int)
       have hll2:=fun k:Nat=>ZW (f:=jE (qc c) h cd) (l:=x.items.map (zF x.index (zI (k:Int)))) fun y _=>hlen h cd y
       simp only[qn]at hfi hq;generalize (qc c x.name).isSome=sm at hfi;generalize (qc c x.name).getD 0=N at *;obtain⟨m,hm⟩:∃ m:Nat,m=N.toNat:=⟨_,rfl⟩;rw[<- hm]at hR' hlx;have hlk:∀ k:Nat,((k:Int)<N)↔k<m:=fun k=>by omega
       have hm8:m<=8:=(by omega);generalize hG:(fun (k:Nat)=>Z5 (jE (qc c) h cd) (x.items.map (zF x.index (zI (k:Int)))))=G at *;have hGk:∀ k:Nat,Z5 (jE (qc c) h cd) (x.items.map (zF x.index (zI (k:Int))))=G k:=fun k=>by rw[<- hG]
       simp only[hGk]at hq hll2;have hGl:∀ k:Nat,((List.range k).flatMap G).length<=k*20000400:=fun k=>by
        induction k with
        | zero=>simp
        | succ k ih=>
         have:=hll2 k;rw[qrX,qsG,qqY];simp only[qrm,qs2,qrl];omega
       simp[-getElem?_pos,-kw,h0,h4,h7,h8',hlt,hxx,hlr,hll,hgo',ql x,qa x.expr,k5];refine qd.call hfi (by simp) ?_;simp[-getElem?_pos,-kw];refine qv.count m (fun k ev O=>ev 0=.sl 12 (l.map qK) .none/\ev 2=.sl 4 ((YS cd).map qz) .none/\ev 4=.ptr 0 0/\ev 8=.int .i64 d.length/\ev 9=.ptr (t.length+1) 0/\ev 11=.int .i64 N/\ev 13=.int .i64 k/\∃ rows' t',ev 7=ye 12 YL 0 rows'/\O=⟨.cells [.str c.name,.str c.parent,.sl 5 (c.fields.map q8) .none,.sl 2 (c.blocks.map qR) .none]::t',zG [] rows'⟩/\t'[t.length]?=some (.cells [.int .i64 5,.int .i64 x.expr.op,.int .i64 x.expr.n,.str x.expr.name,.sl 4 (x.expr.args.map qz) .none,.str x.name,.str x.index,.sl 4 (x.ws.map zs) .none,.sl 12 (x.items.map qK) .none,.sl 12 (x.els.map qK) .none,.sl 1 (x.before.map qs) .none,.sl 1 (x.after.map qs) .none])/\yL rows' ((out++(List.range k).flatMap G).map qK)/\zp rows'=true) ?_ ?_ ?_
       . exact⟨h0,h2,h4,h8',by simp,by simp,by simp,rows,_,h7,by simp;rfl,by simp,by simpa using hrl,hnr⟩
       . clear h0 h2 h4 h7 h8';rintro k ev O hkm ⟨h0,h2,h4,h8',h9,h11,h13,rows2,t2,h7,rfl,hbx,hrl2,hnr2⟩;have hkN:(k:Int)<N:=(hlk k).2 hkm;have hkw:=wq (n:=k) (by omega);have hn2:=yL.len _ _ hrl2;rw[qrv,qqY]at hn2;have hgk:=hGl k;have hqk:=hq k;have hrek:=hre k;have hcok:=hco k;have hlk2:=hll2 k;have hnm:zp (List.map (qK∘zF x.index (zI (k:Int))) x.items)=true:=qS (f:=qK∘zF x.index (zI (k:Int))) (fun y=>nrI _) x.items;have hcons:∀ y:Blk,(y::t2)[t.length+1]?=some (.cells [.int .i64 5,.int .i64 x.expr.op,.int .i64 x.expr.n,.str x.expr.name,.sl 4 (x.expr.args.map qz) .none,.str x.name,.str x.index,.sl 4 (x.ws.map zs) .none,.sl 12 (x.items.map qK) .none,.sl 12 (x.els.map qK) .none,.sl 1 (x.before.map qs) .none,.sl 1 (x.after.map qs) .none]):=fun y=>by simpa using hbx
         have happ:=fun H=>app H () rows2 ((G k).map qK) .none (by rw[qrv];omega)
         simp only[qrt]at happ;generalize zI (k:Int)=K at *;simp only[qa K]at hrek hcok;simp[-getElem?_pos,-kw,h7,h9,h11,h13,hkN,hcons];refine qd.call hcok (by simp) ?_;simp[-getElem?_pos,-kw];refine qd.call hrek (by simp) ?_;simp[-getElem?_pos,-kw,h2,h4];refine qd.call (by simpa using hqk) (by simp[hnm]) ?_;simp[-getElem?_pos,-kw,h0,h2,h4,h8',h9,h11,h13,happ,hkw];refine⟨rows2++(G k).map qK,rfl,t2,⟨rfl,rfl⟩,hbx,?_,by rw[zd,hnr2];simp⟩;have hsplit:out++(List.range (k+1)).flatMap G=out++(List.range k).flatMap G++G k:=by
          rw[qrX,qsG];simp
         have:=yL.app hrl2 (yL.refl ((G k).map qK));rw[<- qrf,<- hsplit]at this;simpa using this
       . clear h0 h2 h4 h7 h8';rintro ev O ⟨h0,h2,h4,h8',h9,h11,h13,rows2,t2,h7,rfl,hbx,hrl2,hnr2⟩;have hkN:¬ (m:Int)<N:=fun h=>by have:=(hlk m).1 h;omega
         simp[-getElem?_pos,-kw,h8',h11,h13,hkN,hdw];exact hR' _ _ _ ⟨h0,h2,h4,h7,by simp⟩ hrl2 hnr2
     have hfx:jE (qc c) (h+1) cd x=[x]:=(by simp only[jE];rw[if_neg (by omega),if_neg k4,if_neg k5]);rw[hfx]at hR';have happ:=fun H=>app H () rows [[.int .i64 x.kind,.int .i64 x.expr.op,.int .i64 x.expr.n,.str x.expr.name,.sl 4 (x.expr.args.map qz) .none,.str x.name,.str x.index,.sl 4 (x.ws.map zs) .none,.sl 12 (x.items.map qK) .none,.sl 12 (x.els.map qK) .none,.sl 1 (x.before.map qs) .none,.sl 1 (x.after.map qs) .none]] .tight (by simp;omega)
     simp only[qrt]at happ;simp[-getElem?_pos,-kw,h0,h2,h4,h7,h8',hlt,hxx,hlr,hll,hgo',ql x,qa x.expr,k1,k2,k4,k5,happ,hdw];exact hR' _ _ _ ⟨h0,h2,h4,by simp,by simp⟩ (by rw[qrf];exact yL.app hrl (by simp[ql x,qa x.expr])) (by rw[zd,hnr];simp)
   . have hgo':¬ (rows.length:Int)<=400:=(by omega);have hgo2:¬ rows.length<=400:=(by omega);have hov:=hov (by omega);rw[hov];have q:=qgo (sz:=12) (en:=qK) hrl;have q2:=VW (sz:=12) hnr;simp[-getElem?_pos,-kw,h0,h7,h8',hlt,hlr,hll,hgo'];exact⟨q2,q⟩
 . rintro ev O ⟨h0,h2,h4,h8',rows,t,h7,rfl,hrl,hnr⟩;have hll:∀ O,kw (Dof Zp) O 24 (.sl 12 (l.map qK) .none)=some (.int .i64 l.length):=fun O=>by simp[kw]
   have hlr:=fun O=>qgp (D:=Dof Zp) (O:=O) (sz:=12) (t:=0) (s:=rows) D24 rfl
   have q:=qgo (sz:=12) (en:=qK) hrl;have q2:=VW (sz:=12) hnr;simp[-getElem?_pos,-kw,h0,h7,h8',hll];exact⟨q2,q⟩
section
attribute [local simp] acells fin zh ze pl1 plain pl2 AV.atom
def Zv (a b:List It):Prop:=a=b\/(400<a.length/\400<b.length)
theorem Zv.refl (a:List It):Zv a a:=.inl rfl
theorem Zv.app {a b c d:List It}(h:Zv a b)(h':Zv c d):Zv (a++c) (b++d):=by
 rcases h with rfl|⟨h1,h2⟩
 . rcases h' with rfl|⟨h3,h4⟩
   . exact .inl rfl
   . exact .inr ⟨by rw[qqY];omega,by rw[qqY];omega⟩
 . exact .inr ⟨by rw[qqY];omega,by rw[qqY];omega⟩
theorem qcn {f g:It->List It}:∀ (l out out':List It),Zv out out'->(∀ x∈l,Zv (f x) (g x))->Zv (l.foldl (qio f) out) (out'++l.flatMap g)
 | [],out,out',h,_=>by simpa using h
 | x::r,out,out',h,hx=>by
  rw[qrP,qrm,<- qri];by_cases h4:out.length<=400
  . have e:qio f out x=out++f x:=(by unfold qio;rw[if_pos h4]);rw[e];exact qcn r _ _ (h.app (hx x (by simp))) fun y hy=>hx y (by simp[hy])
  . have e:qio f out x=out:=(by unfold qio;rw[if_neg h4]);rw[e,Wr r out (by omega)];refine .inr ⟨by omega,?_⟩;have:400<out'.length:=by
     rcases h with rfl|⟨_,h⟩
     . omega
     . exact h
    simp only[qqY];omega
theorem Q8 {f g:It->List It}{l:List It}(h:∀ x∈l,Zv (f x) (g x)):Zv (Z5 f l) (l.flatMap g):=by
 have:=qcn l [] [] (.refl _) h;rw[qrh]at this;exact this
theorem VD {α:Type}{f g:α->List It}:∀ {l:List α},(∀ x∈l,Zv (f x) (g x))->Zv (l.flatMap f) (l.flatMap g)
 | [],_=>.refl _
 | x::r,h=>by
  rw[qrm,qrm];exact (h x (by simp)).app (VD fun y hy=>h y (by simp[hy]))
structure Good1 (x:It):Prop where
 kind:1<=x.kind/\x.kind<=6
 plain:yA x=true
 noE:wt x.kind=true->NoE x.expr
 hgt:wt x.kind=true->hgt x.expr<=24
def Z1 (x:It):Prop:=∀ y∈Zy x,Good1 y
theorem Z1.self {x:It}(h:Z1 x):Good1 x:=h x (by rw[qX];simp)
theorem Z1.item {x y:It}(h:Z1 x)(hy:y∈x.items):Z1 y:=fun z hz=>h z (by rw[qX];exact qrk _ (qrD _ (qV.2 ⟨y,hy,hz⟩)))
theorem Z1.els {x y:It}(h:Z1 x)(hy:y∈x.els):Z1 y:=fun z hz=>h z (by rw[qX];exact qrk _ (qrK _ (qV.2 ⟨y,hy,hz⟩)))
theorem qdQ {e:Ex}(h:ww e=true):e=zEx:=by
 cases e;simp only[ww,Ex.op_mk,Ex.n_mk,Ex.name_mk,Ex.args_mk,qq1]at h;obtain⟨⟨⟨h1,h2⟩,h3⟩,h4⟩:=h;have g1:=of_decide_eq_true h1;have g2:=of_decide_eq_true h2;have g3:=of_decide_eq_true h3;have g4:=of_decide_eq_true h4;clear h1 h2 h3 h4;subst g1 g2 g3 g4;rfl
theorem Good1.blank {x:It}(h:Good1 x)(hk:wt x.kind=false):x.expr=zEx:=by
 have hp:=h.plain;simp only[yA,qq1,qrV]at hp;obtain⟨⟨⟨⟨⟨⟨a1,_⟩,_⟩,_⟩,_⟩,_⟩,_⟩:=hp;rcases a1 with a1|a1
 . rw[hk]at a1;cases a1
 . exact qdQ a1
theorem qcb {s:Str}{b:Ex}:qZ s b zEx=zEx:=by rw[kf];rfl
theorem qpx {s:Str}{b:Ex}:∀ x,Z1 x->qN s b x=zF s b x:=by
 refine It.ind fun x h1 h2 h=>?_
 rw[yg,kN];have e1:x.items.map (qN s b)=x.items.map (zF s b):=qr7 fun y hy=>h1 y hy (h.item hy)
 have e2:x.els.map (qN s b)=x.els.map (zF s b):=qr7 fun y hy=>h2 y hy (h.els hy)
 have e3:qZ s b x.expr=if wt x.kind=true then qZ s b x.expr else x.expr:=by
  split
  . rfl
  . rename_i hk;rw[h.self.blank (by simpa using hk),qcb]
 rw[e1,e2,<- e3]
theorem qp3 (n:Int):NoE (cEx n):=NoE.mk (by omega) (by simp)
theorem qj5 {s:Str}{n:Int}:∀ e,NoE e->NoE (qZ s (cEx n) e):=by
 refine Ex.ind fun e ih h=>?_
 rw[kf];split
 . exact qp3 n
 . refine NoE.mk (fun h2=>h e (by rw[zb];simp) h2) fun x hx=>?_
   obtain⟨a,ha,rfl⟩:=qq3.1 hx;exact ih a ha (h.arg ha)
theorem qeG {s:Str}{n:Int}{x:It}(h:yA x=true):yA (qN s (cEx n) x)=true:=by
 have hb:ww x.expr=true->ww (qZ s (cEx n) x.expr)=true:=fun hb=>by rw[qdQ hb,qcb];rfl
 simp only[yA,qq1,qrV,decide_eq_true_eq,kz,kA,Kw,qce,qcd,vd,Q5,wy,vh,List.map_eq_nil_iff]at h ⊢;obtain⟨⟨⟨⟨⟨⟨a1,a2⟩,a3⟩,a4⟩,a5⟩,a6⟩,a7⟩:=h;exact⟨⟨⟨⟨⟨⟨a1.imp id hb,a2⟩,a3⟩,a4⟩,a5⟩,a6⟩,a7⟩
theorem Z1.subst {x:It}(h:Z1 x)(s:Str)(n:Int):Z1 (qN s (cEx n) x):=by
 intro y hy;rw[J3]at hy;obtain⟨z,hz,rfl⟩:=qq3.1 hy;have g:=h z hz;refine⟨by rw[kz];exact g.kind,qeG g.plain,fun hk=>?_,fun hk=>?_⟩
 . rw[kA];exact qj5 _ (g.noE (by rw[kz]at hk;exact hk))
 . rw[kA];have:=qc1 (s:=s) (b:=cEx n) rfl z.expr;have:=g.hgt (by rw[kz]at hk;exact hk);omega
def qqU (c:Option Ex):Prop:=∀ q,c=some q->NoE q
theorem qqU.under {c:Option Ex}(h:qqU c){o:Int}(ho:o≠2){e:Ex}(he:NoE e):NoE (zm c o e):=by
 cases c with
 | none=>exact he
 | some q=>
  refine NoE.mk (fun h=>absurd h ho) fun x hx=>?_
  simp only[qra,qru,or_false]at hx;rcases hx with rfl|rfl
  . exact h _ rfl
  . exact he
theorem qeI {x:It}(h:Good1 x)(hk:x.kind=3):x=.mk 3 zEx x.name [] x.ws [] [] [] []:=by
 have hb:=h.blank (by rw[hk];decide);have hp:=h.plain;simp only[yA,qq1,qrV,decide_eq_true_eq]at hp;obtain⟨⟨⟨⟨⟨⟨a1,a2⟩,a3⟩,a4⟩,a5⟩,a6⟩,a7⟩:=hp;have b3:=a3.resolve_left (by omega);have b5:=a5.resolve_left (by omega);have b6:=a6.resolve_left (by omega);have b7:=a7.resolve_left (by omega);cases x;simp only[It.kind,It.expr,It.index,It.items,It.els,It.before,It.after]at *;obtain⟨rfl,rfl⟩:=b7;subst hk hb b3 b5 b6;rfl
theorem qeH {x:It}(h:Good1 x)(hk:x.kind=6):x=.mk 6 zEx [] [] [] [] [] x.before x.after:=by
 have hb:=h.blank (by rw[hk];decide);have hp:=h.plain;simp only[yA,qq1,qrV,decide_eq_true_eq]at hp;obtain⟨⟨⟨⟨⟨⟨a1,a2⟩,a3⟩,a4⟩,a5⟩,a6⟩,a7⟩:=hp;have b2:=a2.resolve_left (by simp[K9,hk]);have b3:=a3.resolve_left (by omega);have b4:=a4.resolve_left (by omega);have b5:=a5.resolve_left (by omega);have b6:=a6.resolve_left (by omega);cases x;simp only[It.kind,It.expr,It.name,It.index,It.ws,It.items,It.els]at *;subst hk hb b2 b3 b4 b5 b6;rfl
theorem Jn {F:yB}:∀ (h h':Nat) (c:Option Ex) (x:It),Z1 x->qqU c->jG x<=h->jG x<=h'->Zv (jE F h c x) (zC F h' c x)
 | 0,_,_,x,_,_,hn,_=>by rw[j6]at hn;omega
 | h+1,0,_,x,_,_,_,hn=>by rw[j6]at hn;omega
 | h+1,h'+1,c,x,hg,hc,hn,hn'=>by
  have g:=hg.self;simp only[jE,zC];by_cases k12:x.kind=1\/x.kind=2
  . rw[if_pos k12,if_pos k12,qcc _ (hc.under (by decide) (g.noE (by rcases k12 with k | k<;>rw[k]<;>decide)))];exact .refl _
  rw[if_neg k12,if_neg k12];by_cases k4:x.kind=4
  . rw[if_pos k4,if_pos k4];have he:=g.noE (by rw[k4];decide);have hn:NoE (YO x.expr):=NoE.mk (by decide) fun y hy=>by simp only[qra,qru,or_false]at hy;subst hy;exact he
    refine Zv.app (Q8 fun y hy=>?_) (Q8 fun y hy=>?_)
    . exact Jn h h' _ y (hg.item hy) (by rintro q ⟨⟩;exact hc.under (by decide) he) (by have:=yU hy;omega) (by have:=yU hy;omega)
    . exact Jn h h' _ y (hg.els hy) (by rintro q ⟨⟩;exact hc.under (by decide) hn) (by have:=vO hy;omega) (by have:=vO hy;omega)
  rw[if_neg k4,if_neg k4];by_cases k5:x.kind=5
  . rw[if_pos k5,if_pos k5];refine VD fun k _=>?_
    have e:x.items.map (zF x.index (zI (k:Int)))=x.items.map (qN x.index (.mk 1 (k:Int) [] [])):=qr7 fun y hy=>(qpx y (hg.item hy)).symm
    rw[e];refine Q8 fun y hy=>?_
    obtain⟨z,hz,rfl⟩:=qq3.1 hy;have hzn:=yU hz;have hs:jG (qN x.index (.mk 1 (k:Int) [] []) z)=jG z:=KZ z;exact Jn h h' c _ ((hg.item hz).subst x.index k) hc (by omega) (by omega)
  rw[if_neg k5,if_neg k5];by_cases k3:x.kind=3
  . rw[if_pos k3,<- qeI g k3];exact .refl _
  rw[if_neg k3,if_pos (by have:=g.kind;omega),<- qeH g (by have:=g.kind;omega)];exact .refl _
theorem qkI {F:yB}{l:List It}(h0:jJ F l=0)(hs:∀ y∈zA l,(pre y.expr).length<=1000000):∀ x∈l,Z1 x:=by
 intro x hx y hy;unfold jJ at h0;split at h0
 . rename_i hn;exact absurd h0 hn
 rename_i hv;have hv:yf l=0:=qrF.1 hv;unfold yf at hv;split at hv
 . cases hv
 obtain⟨z,hz,rfl⟩:=qo7 x ⟨0,[]⟩ y hy;have s0:=qr.1 hv z (kl.2 ⟨x,hx,hz⟩);have hsh:=Qc s0;have hve:wt z.1.kind=true->qM z.1.expr=0:=fun hk=>by
  simp only[wt,decide_eq_true_eq]at hk;exact hsh.expr (by omega) (by omega) (by omega)
 refine⟨hsh.kind,hsh.plain,fun hk=>(jK (hve hk)).noE,fun hk=>?_⟩;have:=hve hk;unfold qM at this;split at this
 . cases this
 . rename_i hn;apply Classical.byContradiction;intro hc;exact hn ⟨this,.inl (by omega)⟩
theorem qff {F:yB}{l:List It}(h0:jJ F l=0)(hs:∀ y∈zA l,(pre y.expr).length<=1000000):Zv (Z5 (jE F 5 none) l) (qQ F 6 none l):=by
 have hn:∀ x∈l,jG x<=5:=by
  unfold jJ at h0;split at h0
  . rename_i hn;exact absurd h0 hn
  . rename_i hv;exact JR (qrF.1 hv)
 exact Q8 fun x hx=>Jn 5 6 none x (qkI h0 hs x hx) (by rintro q ⟨⟩) (hn x hx) (by have:=hn x hx;omega)
def CondH (c:Option Ex)(n:Nat):Prop:=∀ q,c=some q->hgt q<=n
theorem Wm {c:Option Ex}{n:Nat}(h:CondH c n){o:Int}{e:Ex}:hgt (zm c o e)<=max n (hgt e)+1:=by
 cases c with
 | none=>simp only[zm];omega
 | some q=>
  have:=h q rfl;simp only[zm];rw[jo];simp only[Ex.args_mk,we,qgA];omega
theorem Zh {F:yB}:∀ (h:Nat) (c:Option Ex) (n:Nat) (x:It),30<=n->Z1 x->CondH c n->∀ y∈zC F h c x,hgt y.expr<=n+1+2*h
 | 0,_,_,_,_,_,_,y,hy=>by simp[zC]at hy
 | h+1,c,n,x,h30,hg,hc,y,hy=>by
  have g:=hg.self;simp only[zC]at hy;split at hy
  . rename_i k;simp only[qra,qru,or_false]at hy;subst hy;have h1:=qc1 (s:=[]) (b:=zEx) rfl (zm c 21 x.expr);have h2:=Wm hc (o:=21) (e:=x.expr);have h3:=g.hgt (by rcases k with k | k<;>rw[k]<;>decide);show hgt (qZ [] zEx (zm c 21 x.expr))<=_;omega
  split at hy
  . rename_i k4;have h3:=g.hgt (by rw[k4];decide);have hnot:hgt (YO x.expr)<=25:=by
     unfold YO;rw[jo];simp only[Ex.args_mk,we,qgA];omega
    rcases qre.1 hy with hy|hy
    . obtain⟨a,ha,hya⟩:=qrp.1 hy;have:=Zh h _ (n+1) a (by omega) (hg.item ha) (by rintro q ⟨⟩;have:=Wm hc (o:=19) (e:=x.expr);omega) y hya;omega
    . obtain⟨a,ha,hya⟩:=qrp.1 hy;have:=Zh h _ (n+1) a (by omega) (hg.els ha) (by rintro q ⟨⟩;have:=Wm hc (o:=19) (e:=YO x.expr);omega) y hya;omega
  split at hy
  . obtain⟨k,_,hyk⟩:=qrp.1 hy;obtain⟨a,ha,hya⟩:=qrp.1 hyk;obtain⟨z,hz,rfl⟩:=qq3.1 ha;have:=Zh h c n _ h30 ((hg.item hz).subst x.index k) hc y hya;omega
  split at hy
  . simp only[qra,qru,or_false]at hy;subst hy;show hgt zEx<=_;rw[jo];simp[zEx];omega
  split at hy
  . simp only[qra,qru,or_false]at hy;subst hy;show hgt zEx<=_;rw[jo];simp[zEx];omega
  . cases hy
end
theorem qjR {s:Str}{b:Ex}:∀ x,Zy (zF s b x)=(Zy x).map (zF s b):=by
 refine It.ind fun x h1 h2=>?_
 rw[qX,qX x,Qf,Jl,qqZ,qrf];have:∀ l:List It,(∀ a∈l,Zy (zF s b a)=(Zy a).map (zF s b))->zA (l.map (zF s b))=(zA l).map (zF s b):=by
  intro l
  induction l with
  | nil=>simp[zA]
  | cons a r ih=>
   intro h;simp only[qqZ,zA,qrf];rw[h a (by simp),ih fun y hy=>h y (by simp[hy])]
 rw[this _ h1,this _ h2]
theorem qhW {s:Str}{b:Ex}:∀ x,jG (zF s b x)=jG x:=by
 refine It.ind fun x h1 h2=>?_
 have:∀ l:List It,(∀ a∈l,jG (zF s b a)=jG a)->wC (l.map (zF s b))=wC l:=by
  intro l
  induction l with
  | nil=>simp[wC]
  | cons a r ih=>
   intro h;simp only[qqZ,wC];rw[h a (by simp),ih fun y hy=>h y (by simp[hy])]
 rw[j6,j6 x,Qf,Jl,this _ h1,this _ h2]
theorem W9.rsub {x:It}(h:W9 x)(s:Str)(n:Int):W9 (zF s (zI n) x):=by
 intro y hy;rw[qjR]at hy;obtain⟨z,hz,rfl⟩:=qq3.1 hy;have lo:=h z hz;refine⟨?_,?_,?_,?_,?_,?_,?_⟩
 . rw[JZ];split
   . exact ZI (qaG n) _ lo.slim
   . exact lo.slim
 . rw[JZ];split
   . exact JQ (qiN n) _ lo.wen
   . exact lo.wen
 . rw[qf3];exact lo.ws
 . rw[Qf];simpa using lo.items
 . rw[Jl];simpa using lo.els
 . rw[Yv];exact lo.before
 . rw[KJ];exact lo.after
theorem JH (c:Cls)(hf:Fits c.fields)(h8:∀ s,(qc c s).getD 0<=8):∀ (h:Nat),h<=5->∀ (cd:Option Ex) (l:List It),l.length<=1000->(∀ x∈l,W9 x)->(∀ x∈l,jG x<=h) ->
 PZ 208 [sI l,.agg (qn c),.sl 4 ((YS cd).map qz) .none] (.sl 12 ((Z5 (jE (qc c) h cd) l).map qK) .none)
 | 0,_,cd,l,_,_,hn=>by
  have:l=[]:=by
   cases l with
   | nil=>rfl
   | cons a r=>have:=hn a (by simp);rw[j6]at this;omega
  subst this;exact qac c hf h8 0 (by omega) cd [] (by simp) (by simp) (by simp)
 | h+1,h5,cd,l,hl,hlo,hn=>by
  refine qac c hf h8 h h5 cd l hl hlo fun x hx cd' l' hl'=>?_
  have hxn:=hn x hx;have lo:=(hlo x hx).self;rcases hl' with rfl|rfl|⟨k,rfl⟩
  . exact JH c hf h8 h (by omega) cd' _ lo.items (fun y hy=>(hlo x hx).item hy) fun y hy=>by have:=yU hy;omega
  . exact JH c hf h8 h (by omega) cd' _ lo.els (fun y hy=>(hlo x hx).els hy) fun y hy=>by have:=vO hy;omega
  . refine JH c hf h8 h (by omega) cd' _ (by simpa using lo.items) (fun y hy=>?_) fun y hy=>?_
    . obtain⟨z,hz,rfl⟩:=qq3.1 hy;exact ((hlo x hx).item hz).rsub _ _
    . obtain⟨z,hz,rfl⟩:=qq3.1 hy;rw[qhW];have:=yU hz;omega
theorem wF {F:yB}:∀ (h:Nat) (c:Option Ex) (x:It),∀ y∈zC F h c x,y.kind=1\/y.kind=2\/y.kind=3\/y.kind=6
 | 0,_,_,y,hy=>by simp[zC]at hy
 | h+1,c,x,y,hy=>by
  simp only[zC]at hy;split at hy
  . rename_i k;simp only[qra,qru,or_false]at hy;subst hy;rcases k with k|k
    . exact .inl k
    . exact .inr (.inl k)
  split at hy
  . rcases qre.1 hy with hy|hy
    . obtain⟨a,ha,hya⟩:=qrp.1 hy;exact wF h _ a y hya
    . obtain⟨a,ha,hya⟩:=qrp.1 hy;exact wF h _ a y hya
  split at hy
  . obtain⟨k,_,hyk⟩:=qrp.1 hy;obtain⟨a,ha,hya⟩:=qrp.1 hyk;exact wF h _ a y hya
  split at hy
  . simp only[qra,qru,or_false]at hy;subst hy;exact .inr (.inr (.inl rfl))
  split at hy
  . simp only[qra,qru,or_false]at hy;subst hy;exact .inr (.inr (.inr rfl))
  . cases hy
theorem qhF (l:List It)(c:Cls)(h:Few l)(hn:∀ x∈l,jG x<=90000)(hf:Fits c.fields)(h8:∀ s,(qc c s).getD 0<=8)(hp:∀ a n,qc c a=some n->0<=n) :
 PZ 138 [sI l,.agg (qn c)] (.tup [.sl 12 ((kH (qc c) l).map qK) .none,I_ (qU (qc c) l)]):=by
 refine Pure.k qg Tryz.func138 rfl (by kernel_rfl) ?_;have hck:=qcw l c h hn hf hp;have hE:qU (qc c) l=if jJ (qc c) l≠0 then jJ (qc c) l else if 400<(qQ (qc c) 6 none l).length then 2 else if (qQ (qc c) 6 none l).any (fun x=>YU x.kind&&!decide (qM x.expr=0))=true then 2 else 0:=rfl
 have hS:kH (qc c) l=if qU (qc c) l≠0 then [] else qQ (qc c) 6 none l:=rfl
 generalize kH (qc c) l=S at hS;generalize qU (qc c) l=E at hE hS;simp only[qn]at hck;by_cases h0:jJ (qc c) l=0
 . rw[if_neg (by simp[h0])]at hE;have hsm:∀ y∈zA l,(pre y.expr).length<=1000000:=fun y hy=>by have:=h.size y hy;omega
   have hn5:∀ x∈l,jG x<=5:=by
    have h0':=h0;unfold jJ at h0';split at h0'
    . rename_i hh;exact absurd h0' hh
    . rename_i hv;exact JR (qrF.1 hv)
   have hex:=JH c hf h8 5 (by omega) none l h.len (fun x hx y hy=>h.low y (qV.2 ⟨x,hx,hy⟩)) hn5;have hsame:=qff h0 hsm;have hgood:=qkI h0 hsm;have hout:∀ y∈qQ (qc c) 6 none l,(YU y.kind=wt y.kind)/\(YU y.kind=true->PZ 92 [.agg (qz y.expr)] (I_ (qM y.expr))):=fun y hy=>by
    obtain⟨x,hx,hyx⟩:=qrp.1 hy;have hk:=wF 6 none x y hyx;have ho:=Qm h y hy;have hg:=Zh 6 none 30 x (by omega) (hgood x hx) (by rintro q ⟨⟩) y hyx;refine⟨?_,fun _=>JS y.expr ho.wen (by omega) (by have:=ho.size;omega)⟩;unfold YU wt;rcases hk with k|k|k|k<;>rw[k]<;>decide
   rw[h0]at hck;simp only[qn,YS,qq9]at hex;generalize Z5 (jE (qc c) 5 none) l=O_ at hsame hex;generalize qQ (qc c) 6 none l=X at *;by_cases h4:400<O_.length
   . have h4X:400<X.length:=by
      rcases hsame with rfl|⟨_,h⟩
      . exact h4
      . exact h
     rw[if_pos h4X]at hE;subst hE;rw[if_pos (by decide)]at hS;subst hS;have h4':(400:Int)<O_.length:=(by omega);simp[-getElem?_pos];refine qd.call hck (by simp) ?_;simp[-getElem?_pos];refine qd.less hex (by simp) (by simp[zt,Leq]) ?_;simp[-getElem?_pos,h4']
   . have hOX:O_=X:=by
      rcases hsame with h|⟨h,_⟩
      . exact h
      . exact absurd h h4
     subst hOX;rw[if_neg h4]at hE;have h4':¬ (400:Int)<O_.length:=(by omega);simp[-getElem?_pos];refine qd.call hck (by simp) ?_;simp[-getElem?_pos];refine qd.less hex (by simp) (by simp[zt,Leq]) ?_;simp[-getElem?_pos,h4'];refine qv.listR O_ (fun d ev O=>ev 7=sI O_/\ev 8=I_ d.length/\(∃ t,O=⟨t,[]⟩)/\∀ x∈d,(YU x.kind&&!decide (qM x.expr=0))=false) ?_ ?_ ?_
     . exact⟨by simp,by simp,⟨_,rfl⟩,by simp⟩
     . rintro d y rest ev O R hR hd hx hlt ⟨h7,h8',⟨t,rfl⟩,hz⟩;have hym:=qqW hx;have hdw:=wq (n:=d.length) (by omega);obtain⟨k1,k2⟩:=hout y hym;have hka:=qfA y.kind;rw[<- k1]at hka;simp[-getElem?_pos,h7,h8',hlt,hx,ql y,qa y.expr];refine qd.call hka (by simp) ?_
       cases ha:YU y.kind with
       | false=>
        simp[-getElem?_pos,h8',hdw];exact hR _ _ ⟨h7,by simp,⟨_,rfl⟩,zu hz (by rw[ha];rfl)⟩
       | true=>
        have hv:=k2 ha;simp only[qa y.expr]at hv;simp[-getElem?_pos,h7,h8',hx,ql y,qa y.expr];refine qd.call hv (by simp) ?_;by_cases hv0:qM y.expr=0
        . simp[-getElem?_pos,h8',hdw,hv0];exact hR _ _ ⟨h7,by simp,⟨_,rfl⟩,zu hz (by rw[hv0];simp)⟩
        . rw[if_pos (qq2.2 ⟨y,hym,by rw[ha,decide_eq_false hv0];rfl⟩)]at hE;subst hE;rw[if_pos (by decide)]at hS;subst hS;simp[-getElem?_pos,hv0]
     . rintro ev O ⟨h7,h8',⟨t,rfl⟩,hz⟩;rw[if_neg (by rw[qsa,qrx];exact fun x hx=>by rw[hz x hx];simp)]at hE;subst hE;rw[if_neg (by simp)]at hS;subst hS;simp[-getElem?_pos,h7,h8']
 . rw[if_pos h0]at hE;rw[hE,if_pos h0]at hS;rw[hS,hE];simp[-getElem?_pos];refine qd.call hck (by simp) ?_;simp[-getElem?_pos,h0]
end Go.Proofs.YtpgcmnabljandaaGreatDoor
end
