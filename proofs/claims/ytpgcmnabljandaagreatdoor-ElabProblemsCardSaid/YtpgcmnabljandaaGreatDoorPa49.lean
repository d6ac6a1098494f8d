/- A part of the proof. -/
import Derived.Test.YtpgcmnabljandaaGreatDoorPa48
set_option maxHeartbeats 16000000
set_option linter.unusedVariables false
set_option linter.unusedSimpArgs false
set_option maxRecDepth 100000
set_option linter.defProp false
section
namespace Go.Proofs.YtpgcmnabljandaaGreatDoor
open Go Go.Abs
theorem qey {α:Type}{nm:α->Str}{l:List α}{i:Nat}{x:α}(hx:l[i]?=some x)(h:((l.take i).any fun y=>nm y==nm x)=true):Z3 nm l=true:=by
 unfold Z3;rw[qq2];refine⟨i,qrC.2 (qqV.1 hx).1,?_⟩;unfold qhG;rw[hx];obtain⟨y,hy,e⟩:=qq2.1 h;exact qq2.2 ⟨y,hy,by rw[eq_of_beq e];simp⟩
theorem KM {α:Type}{nm:α->Str}{l:List α}(h:∀ (i:Nat) (x:α),l[i]?=some x->((l.take i).any fun y=>nm y==nm x)=false):Z3 nm l=false:=by
 unfold Z3;rw[qrx];intro i hi;obtain⟨x,hx⟩:∃ x,l[i]?=some x:=⟨_,qq6 (qrC.1 hi)⟩;unfold qhG;rw[hx];have:=qrx.1 (h i x hx);simp only[qsa];rw[qrx];intro y hy e;exact this y hy (by rw[eq_of_beq e];simp)
theorem qco (c:Cls)(hn:Fits c.name)(hp:Fits c.parent)(hf:Fits c.fields)(hfn:∀ f∈c.fields,Fits f.name)(hb:Fits c.blocks)(hbn:∀ b∈c.blocks,Fits b.name):PZ 140 [.agg (qn c)] (I_ (ZX c)):=by
 refine Pure.k qg Tryz.func140 rfl (by kernel_rfl) ?_;have hr:ZX c=if qO c.name=false\/(c.parent≠[]/\qO c.parent=false) then 7 else if 16<c.fields.length\/16<c.blocks.length then 2
  else if qh yp c.fields≠0 then qh yp c.fields else if c.blocks.any (fun b=>!qO b.name)=true then 7 else if Z3 Fld.name c.fields=true\/Z3 Blc.name c.blocks=true then 8 else 0:=rfl
 generalize ZX c=r at hr;have hn1:=yl c.name hn;have hn2:=yl c.parent hp;simp[-getElem?_pos];refine qd.call hn1 (by simp) ?_
 cases e1:qO c.name with
 | false=>
  rw[if_pos (.inl e1)]at hr;subst hr;simp[-getElem?_pos]
 | true=>
 have hfi:∀ i s,PZ 212 [.sl 5 ((c.fields.map q8).take i) .none,.str s] (.bool ((c.fields.take i).any fun f=>f.name==s)):=fun i s=>by
  have:=qcs (c.fields.take i) (by unfold Fits at *;rw[qrT];omega) s
  rwa[sF,List.map_take]at this
 have hbi:∀ i s,PZ 205 [.sl 2 ((c.blocks.map qR).take i) .none,.str s] (I_ (qF (fun b=>b.name==s) (c.blocks.take i) 0)):=fun i s=>by
  have:=qcx (c.blocks.take i) (by unfold Fits at *;rw[qrT];omega) s
  rwa[sB,List.map_take]at this
 have hbig:(16:Int)<c.fields.length\/(16:Int)<c.blocks.length\/(¬ (16:Int)<c.fields.length/\¬ (16:Int)<c.blocks.length):=by omega
 by_cases hpe:c.parent=[]
 case' pos=>
  rw[if_neg (by simp[e1,hpe])]at hr;simp[-getElem?_pos,hpe]
 case' neg=>
  simp[-getElem?_pos,hpe];refine qd.call hn2 (by simp) ?_;cases e2:qO c.parent
  . rw[if_pos (.inr ⟨hpe,e2⟩)]at hr;subst hr;simp[-getElem?_pos]
  rw[if_neg (by simp[e1,e2])]at hr;simp[-getElem?_pos]
 all_goals
  repeat' first | (with_reducible refine And.intro ?_ ?_) | (intro _)
 all_goals try (rw[if_pos (by omega)]at hr;exact hr.symm)
 all_goals
  rw[if_neg (by omega)]at hr;refine qv.listR c.fields (fun d ev O=>ev 1=.ptr 0 0/\ev 3=I_ d.length/\O.T=[]/\O.H[0]?=some (.cells [.str c.name,.str c.parent,sF c.fields,sB c.blocks])/\∀ f∈d,yp f=0) ?_ ?_ ?_
  . exact⟨by simp,by simp,by simp,by simp[hpe],by simp⟩
  . rintro d f rest ev ⟨H,T⟩ R hR hd hx hlt ⟨h1,h3,hT,b0,hz⟩;simp only at hT b0;subst hT;have hdw:=wq (n:=d.length) (by omega);have hfm:=qqW hx;have hv:=Vi f (hfn f hfm);simp[-getElem?_pos,h1,h3,b0,hlt,hx];refine qd.call hv (by simp) ?_;by_cases f0:yp f=0
    . simp[-getElem?_pos,h3,f0,hdw];exact hR _ _ ⟨h1,by simp,by simp,b0,zu hz f0⟩
    . have e:qh yp c.fields=yp f:=(by rw[hd];exact ja hz f0);rw[e,if_pos f0]at hr;subst hr;simp[-getElem?_pos,f0]
  . rintro ev ⟨H,T⟩ ⟨h1,h3,hT,b0,hz⟩;simp only at hT b0;subst hT;rw[if_neg (by rw[qr.2 hz];simp)]at hr;simp[-getElem?_pos,h1,h3,b0];refine qv.listR c.blocks (fun d ev O=>ev 1=.ptr 0 0/\ev 5=I_ d.length/\O.T=[]/\O.H[0]?=some (.cells [.str c.name,.str c.parent,sF c.fields,sB c.blocks])/\∀ b∈d,(!qO b.name)=false) ?_ ?_ ?_
    . exact⟨h1,by simp,by simp,b0,by simp⟩
    . clear h1 h3 b0 hz;rintro d b rest ev ⟨H,T⟩ R hR hd hx hlt ⟨h1,h5,hT,b0,hz⟩;simp only at hT b0;subst hT;have hdw:=wq (n:=d.length) (by omega);have hbm:=qqW hx;have hv:=yl b.name (hbn b hbm);simp[-getElem?_pos,h1,h5,b0,hlt,hx];refine qd.call hv (by simp) ?_
      cases f0:qO b.name with
      | false=>
       rw[if_pos (qq2.2 ⟨b,hbm,by simp[f0]⟩)]at hr;subst hr;simp[-getElem?_pos]
      | true=>
       simp[-getElem?_pos,h5,hdw];exact hR _ _ ⟨h1,by simp,by simp,b0,zu hz (by simp[f0])⟩
    . clear h1 h3 b0 hz;rintro ev ⟨H,T⟩ ⟨h1,h5,hT,b0,hz⟩;simp only at hT b0;subst hT;rw[if_neg (by rw[qsa,qrx];exact fun x hx=>by simpa using hz x hx)]at hr;simp[-getElem?_pos,h1,h5,b0];refine qv.listR c.fields (fun d ev O=>ev 1=.ptr 0 0/\ev 6=I_ d.length/\O.T=[]/\O.H[0]?=some (.cells [.str c.name,.str c.parent,sF c.fields,sB c.blocks])/\∀ (i:Nat) (x:Fld),i<d.length->c.fields[i]?=some x->((c.fields.take i).any fun y=>y.name==x.name)=false) ?_ ?_ ?_
      . exact⟨h1,by simp,by simp,b0,by simp⟩
      . clear h1 h5 b0 hz;rintro d f rest ev ⟨H,T⟩ R hR hd hx hlt ⟨h1,h6,hT,b0,hz⟩;simp only at hT b0;subst hT;have hdw:=wq (n:=d.length) (by omega);have hv:=hfi d.length f.name;have hsp:=Kz (sz:=5) (rows:=c.fields.map q8) (i:=d.length) (by simp;omega);have hnr:zp (List.take d.length (List.map q8 c.fields))=true:=(by rw[<- List.map_take];exact nrFld _);simp[-getElem?_pos,h1,h6,b0,hlt,hx,hsp];refine qd.call hv (by simp[hnr]) ?_
        cases f0:((c.fields.take d.length).any fun y=>y.name==f.name) with
        | true=>
         rw[if_pos (.inl (qey hx f0))]at hr;subst hr;simp[-getElem?_pos]
        | false=>
         simp[-getElem?_pos,h6,hdw];refine hR _ _ ⟨h1,by simp,by simp,b0,fun i x hi hix=>?_⟩;rw[qqY,qq8]at hi;rcases qrs.1 hi with hi|rfl
         . exact hz i x hi hix
         . rw[hx]at hix;cases hix;exact f0
      . clear h1 h5 b0 hz;rintro ev ⟨H,T⟩ ⟨h1,h6,hT,b0,hz⟩;simp only at hT b0;subst hT;have hno1:=KM (nm:=Fld.name) fun i x hix=>hz i x (qqV.1 hix).1 hix
        rw[hno1]at hr;simp[-getElem?_pos,h1,h6,b0];refine qv.listR c.blocks (fun d ev O=>ev 1=.ptr 0 0/\ev 7=I_ d.length/\O.T=[]/\O.H[0]?=some (.cells [.str c.name,.str c.parent,sF c.fields,sB c.blocks])/\∀ (i:Nat) (x:Blc),i<d.length->c.blocks[i]?=some x->((c.blocks.take i).any fun y=>y.name==x.name)=false) ?_ ?_ ?_
        . exact⟨h1,by simp,by simp,b0,by simp⟩
        . clear h1 h6 b0 hz;rintro d b rest ev ⟨H,T⟩ R hR hd hx hlt ⟨h1,h7,hT,b0,hz⟩;simp only at hT b0;subst hT;have hdw:=wq (n:=d.length) (by omega);have hv:=hbi d.length b.name;have hsp:=Kz (sz:=2) (rows:=c.blocks.map qR) (i:=d.length) (by simp;omega);have hnr:zp (List.take d.length (List.map qR c.blocks))=true:=(by rw[<- List.map_take];exact nrBlc _);have hge:decide (0<=qF (fun y:Blc=>y.name==b.name) (c.blocks.take d.length) 0)=(c.blocks.take d.length).any fun y=>y.name==b.name:=by
           have:=vw (p:=fun y:Blc=>y.name==b.name) (l:=c.blocks.take d.length) (i:=0) (by omega)
           cases e:(c.blocks.take d.length).any fun y=>y.name==b.name with
           | true=>exact decide_eq_true (this.2 e)
           | false=>exact decide_eq_false fun h=>by rw[this.1 h]at e;cases e
          generalize qF (fun y:Blc=>y.name==b.name) (c.blocks.take d.length) 0=q at hv hge;simp[-getElem?_pos,h1,h7,b0,hlt,hx,hsp];refine qd.call hv (by simp[hnr]) ?_;by_cases q0:0<=q
          . rw[decide_eq_true q0]at hge;rw[if_pos (.inr (qey hx hge.symm))]at hr;subst hr;simp[-getElem?_pos,q0]
          . rw[decide_eq_false q0]at hge;simp[-getElem?_pos,h7,hdw,q0];refine hR _ _ ⟨h1,by simp,by simp,b0,fun i x hi hix=>?_⟩;rw[qqY,qq8]at hi;rcases qrs.1 hi with hi|rfl
            . exact hz i x hi hix
            . rw[hx]at hix;cases hix;exact hge.symm
        . clear h1 h6 b0 hz;rintro ev ⟨H,T⟩ ⟨h1,h7,hT,b0,hz⟩;simp only at hT b0;subst hT;have hno2:=KM (nm:=Blc.name) fun i x hix=>hz i x (qqV.1 hix).1 hix
          rw[hno2,if_neg (by simp)]at hr;subst hr;simp[-getElem?_pos,h1,h7,b0]
section
attribute [local simp] acells fin zh ze pl1 plain pl2 AV.atom
theorem qaB {src:List Cls}{c:Cls}(h:c.parent=[]):∀ n,upS src n c=[c]
 | 0=>rfl
 | n+1=>by rw[upS,if_pos h]
theorem qf1 (src:List Cls)(hl:src.length<=1000)(c0:Cls):PZ 204 [sC src,.agg (qn c0)] (.sl 4 ((upS src 32 c0).map qn) .none):=by
 refine Pure.k qg Tryz.func204 rfl (by kernel_rfl) ?_;obtain⟨u,hu⟩:∃ u,u=upS src 32 c0:=⟨_,rfl⟩;rw[<- hu];simp;refine qv.gen (fun n ev O=>∃ pre c,pre.length<=32/\n=32-pre.length/\ev 0=sC src/\ev 3=.ptr 0 0/\ev 5=vC 4 qn pre c/\(∃ t,O=⟨.cells (qn c)::t,vl pre⟩)/\u=pre++upS src n c) 32 ?_ ?_
 . exact⟨[],c0,by simp,by simp,by simp,by simp,by simp[vC],⟨[],by simp[vl]⟩,by simp[hu]⟩
 rintro n ev O R hR ⟨pre,c,hp,rfl,h0,h3,h6,⟨t,rfl⟩,ha⟩;clear hu;by_cases hc:c.parent=[]
 . rw[qaB hc]at ha;subst ha
   cases pre with
   | nil=>simp only[vC]at h6;simp[h3,hc,h6]
   | cons a r=>simp only[vC]at h6;simp[h3,hc,h6,zd]
 . by_cases hs:pre.length=32
   . rw[hs]at ha;have ha:u=pre++[c]:=ha;subst ha
     cases pre with
     | nil=>simp at hs
     | cons a r=>
      have hs':r.length=31:=(by simpa using hs);simp only[vC]at h6;simp[h0,h3,hc,h6,hs',zd]
   . obtain⟨f,hf⟩:∃ f,32-pre.length=f+1:=⟨32-pre.length-1,by omega⟩;have hfind:=Y1 src (by unfold Fits;omega) c.parent;have hR:=hR f;rw[hf,upS,if_neg hc]at ha
     cases hq:yI src c.parent with
     | none=>
      rw[hq]at ha hfind;have ha:u=pre++[c]:=ha;subst ha
      cases pre with
      | nil=>
       simp only[vC]at h6;simp[h0,h3,hc,h6];refine qd.call hfind (by simp) ?_;simp[h0,h3,h6]
      | cons a r=>
       have hg:(r.length:Int)+1+1<=32:=(by simp at hp hs;omega);simp only[vC]at h6;simp[h0,h3,hc,h6,hg];refine qd.call hfind (by simp) ?_;simp[h0,h3,h6,zd]
     | some d=>
      rw[hq]at ha hfind;have hdd:yo src c.parent=d:=(by unfold yo;rw[hq];rfl);rw[hdd]at hfind;have ha:u=(pre++[c])++upS src f d:=(by rw[ha];simp)
      cases pre with
      | nil=>
       simp only[vC]at h6;simp[h0,h3,hc,h6];refine qd.call hfind (by simp) ?_;simp[h0,h3,h6,qt];refine hR _ _ (by omega) ⟨[c],d,?pa,?pb,?pc,?pd,?pe,⟨?w,?pf⟩,ha⟩
       case pf=>simp[vl];try rfl
       case pa=>simp
       case pb=>simp at hf ⊢;omega
       case pc=>simp[h0]
       case pd=>simp[h3]
       case pe=>simp[vC,vl]
      | cons a r=>
       have hg:(r.length:Int)+1+1<=32:=(by simp at hp hs;omega);have hb:r.length+1+1+1<=1073741824:=(by simp at hp;omega);simp only[vC]at h6;simp[h0,h3,hc,h6,hg];refine qd.call hfind (by simp) ?_;simp[h0,h3,h6,qt,vl,hb];refine hR _ _ (by omega) ⟨a::r++[c],d,?pa,?pb,?pc,?pd,?pe,⟨?w,?pf⟩,ha⟩
       case pf=>simp[vl];try rfl
       case pa=>simp at hp hs ⊢;omega
       case pb=>simp at hf ⊢;omega
       case pc=>simp[h0]
       case pd=>simp[h3]
       case pe=>simp[vC,vl]
end
theorem qcW (c:Cls)(r:List Cls)(hl:r.length<=1000)(hf:c.fields.length<=1000)(hr:∀ x∈r,Fits x.fields):PZ 266 [.sl 4 ((c::r).map qn) .none] (.bool (r.any fun x=>jW x.fields c.fields)):=by
 refine Pure.k qg Tryz.func266 rfl (by kernel_rfl) ?_;generalize hq:(r.any fun x=>jW x.fields c.fields)=q;have hg0:∀ i:Nat,((c::r).map qn)[i+1]?=(r.map qn)[i]? := fun i=>by simp
 simp[-getElem?_pos];refine qv.listR r (fun d ev O=>ev 0=.sl 4 ((c::r).map qn) .none/\ev 3=I_ (d.length+1:Nat)/\(∃ H,O=⟨H,[]⟩)/\∀ x∈d,jW x.fields c.fields=false) ?_ ?_ ?_
 . exact⟨by simp,by simp,⟨_,rfl⟩,by simp⟩
 . rintro d x rest ev O R hR hd hx hlt ⟨h0,h3,⟨H,rfl⟩,hz⟩;have hdw:IntKind.i64.wrap ((d.length:Int)+1+1)=(d.length+1+1:Nat):=(by rw[wr (by omega) (by omega)];omega);have hlt2:(d.length:Int)+1<r.length+1:=(by omega);have hxm:=qqW hx;have hfx:=hr x hxm;simp[-getElem?_pos,h0,h3,hlt2];refine qv.listR c.fields (fun e ev O=>ev 0=.sl 4 ((c::r).map qn) .none/\ev 3=I_ (d.length+1:Nat)/\ev 4=I_ e.length/\(∃ H,O=⟨H,[]⟩)/\∀ f∈e,(x.fields.any fun y=>y.name==f.name)=false) ?_ ?_ ?_
   . exact⟨h0,h3,by simp,⟨_,rfl⟩,by simp⟩
   . rintro e f rest2 ev O R2 hR2 he hfx2 hltf ⟨h0,h3,h4,⟨H,rfl⟩,hz2⟩;have hew:=wq (n:=e.length) (by omega);simp[-getElem?_pos,h0,h3,h4,hltf,hfx2,hx,(show (0:Int)<=(d.length:Int)+1 by omega)];refine qd.call (qcs x.fields hfx f.name) (by simp) ?_;cases ha:x.fields.any fun y=>y.name==f.name
     . simp[-getElem?_pos,h4,hew];exact hR2 _ _ ⟨h0,h3,by simp,⟨_,rfl⟩,zu hz2 ha⟩
     . have:q=true:=by
        rw[<- hq];exact qq2.2 ⟨x,hxm,by unfold jW;exact qq2.2 ⟨f,qqW hfx2,ha⟩⟩
       subst this;simp[-getElem?_pos]
   . rintro ev O ⟨h0,h3,h4,⟨H,rfl⟩,hz2⟩;simp[-getElem?_pos,h0,h3,h4,hdw];have hno:jW x.fields c.fields=false:=(by unfold jW;rw[qrx];exact fun f hf=>by simpa using hz2 f hf);exact hR _ _ ⟨h0,by simp,⟨_,rfl⟩,zu hz hno⟩
 . rintro ev O ⟨h0,h3,⟨H,rfl⟩,hz⟩;have:q=false:=by rw[<- hq,qrx];exact fun x hx=>by simp[hz x hx]
   subst this;simp[-getElem?_pos,h0,h3]
def qgd:List (Nat×Sch×List Nat):=[(5,.step 0 [9,8,7,1] (.step 1 [9,8,7] (.step 2 [9,8,7,6,5,4] (.step 3 [9,8,7,6,5,4] (.step 4 [9,8,7,6,5] (.step 5 [9,8,7,6] (.step 6 [9,8,7] (.step 7 [9,8] (.step 8 [9] (.step 9 [] (.done)))))))))),[])]
theorem qig (c:Cls)(r:List Cls):(q7 (c::r)).1.name=c.name:=rfl
theorem K8 {H:List Blk}{b fb:Nat}{n p:Str}{x y fv:AV}{l:List Fld}(hb:H[b]?=some (.cells [.str n,.str p,x,y]))(hf:zi fb 5 q8 H fv l)(hl:l≠[]):fb≠b:=by
 obtain⟨m,hm⟩:=fld1 hl;refine WZ (hf.at hl).2 hb ?_;rw[hm];simp
theorem ZQ {H:List Blk}{b fb:Nat}{n p:Str}{x y fv:AV}{l:List Blc}(hb:H[b]?=some (.cells [.str n,.str p,x,y]))(hf:zi fb 2 qR H fv l)(hl:l≠[]):fb≠b:=by
 obtain⟨m,hm⟩:=blc1 hl;refine WZ (hf.at hl).2 hb ?_;rw[hm];simp
theorem qnx {H:List Blk}{n:Nat}{c:List AV}:frz H (n+1) (.agg c)=.agg (c.map (frz H n)):=by
 by_cases h:zg (.agg c)=true
 . rw[qP h];congr 1;simp only[zg]at h
   induction c with
   | nil=>rfl
   | cons a r ih=>
    simp only[qu,qq1]at h;rw[qqZ,qP h.1,<- ih h.2]
 . rw[frz,if_neg h]
theorem qkR (c0:Cls)(rr:List Cls)(hl:(c0::rr).length<=1000)(hc:∀ c∈c0::rr,c.fields.length<=50/\c.blocks.length<=50):PZ 135 [.sl 4 ((c0::rr).map qn) .none] (.agg (qn (q7 (c0::rr)).1)):=by
 refine Pure.kO ⟨true,qgd,[],[]⟩ true qg Tryz.func135 rfl (by kernel_rfl) ?_;have hg0:(c0::rr)[0]?=some c0:=rfl;have hen:=qig c0 rr;have hep:=YC (c0::rr);have hwl:IntKind.i64.wrap (((c0::rr).length:Int)-1)=((c0::rr).length:Int)-1:=wr (by omega) (by omega);have hpos:0<(c0::rr).length:=by simp
 generalize hL:c0::rr=L at *;simp[-getElem?_pos,hg0];refine qv.gen (fun n ev O=>n<=L.length/\ev 0=sC L/\ev 2=.ptr 0 0/\ev 3=.ptr 1 0/\ev 4=I_ ((n:Int)-1)/\∃ H fb bb fv bv,O=⟨H,[]⟩ /\
  H[0]?=some (.cells [.str [],.str [],.sl 0 [] .nil,.sl 0 [] .nil])/\H[1]?=some (.cells [.str c0.name,.str [],fv,bv])/\zi fb 5 q8 H fv (q7 (L.drop n)).1.fields/\zi bb 2 qR H bv (q7 (L.drop n)).1.blocks) L.length ?_ ?_
 . refine⟨by omega,by simp,by simp,by simp,by simp[hwl],_,5,6,.sl 0 [] .nil,.sl 0 [] .nil,rfl,by simp,by simp,.inl ⟨by simp[q7,Z7],rfl⟩,.inl ⟨by simp[q7,Z7],rfl⟩⟩
 rintro n ev O R hR ⟨hn,h0,h2,h3,h4,H,fb,bb,fv,bv,rfl,b0,b1,hf,hbk⟩
 cases n with
 | zero=>
  rw[qsv]at hf hbk;have at1:=hf.atom;have at2:=hbk.atom;simp[-getElem?_pos,h2,h3,h4,b0,b1,at1,at2];have hs0:(H.set 0 (.cells [.str c0.name,.str [],fv,bv]))[0]?=some (.cells [.str c0.name,.str [],fv,bv]):=by
   rw[qq4 (qqV.1 b0).1]
  have hf':zi fb 5 q8 (H.set 0 (.cells [.str c0.name,.str [],fv,bv])) fv (q7 L).1.fields:=hf.keep fun x hl hx=>by
   rw[qqX (Ne.symm (K8 b0 hf hl))];exact hx
  have hbk':zi bb 2 qR (H.set 0 (.cells [.str c0.name,.str [],fv,bv])) bv (q7 L).1.blocks:=hbk.keep fun x hl hx=>by
   rw[qqX (Ne.symm (ZQ b0 hbk hl))];exact hx
  generalize H.set 0 (.cells [.str c0.name,.str [],fv,bv])=H0 at *;have a1:=hf'.frzNo (fun x=>by simp) (fun x=>by simp) (fun x=>by simp) 6;have a2:=hbk'.frzNo (fun x=>by simp) (fun x=>by simp) (fun x=>by simp) 6;have c1:=hf'.frz (fun x=>by simp) (fun x=>by simp) (fun x=>by simp) 6;have c2:=hbk'.frz (fun x=>by simp) (fun x=>by simp) (fun x=>by simp) 6;rw[hen,hep];simp[-getElem?_pos,hs0,Qp,qnx,Qi,a1,a2,c1,c2]
 | succ n=>
  obtain⟨c,hcn⟩:∃ c,L[n]?=some c:=⟨L[n],qq6 (by omega)⟩;have hcm:=qqW hcn;obtain⟨hc1,hc2⟩:=hc c hcm;have hs:q7 (L.drop n)=qab c (q7 (L.drop (n+1))):=qdc qab _ L n c hcn;have hb:=Ww (k:=50) (l:=L.drop (n+1)) fun x hx=>hc x (qsC hx)
  have hlen:(L.drop (n+1)).length<=1000:=by simp;omega
  have e1:((n+1:Nat):Int)-1=n:=by omega
  rw[e1]at h4;have hR:=hR n;have hge:(0:Int)<=n:=by omega
  have hlt:(n:Int)<L.length:=by omega
  simp[-getElem?_pos,h4,hge];rw[zJ rfl];simp[-getElem?_pos,zR,h0,h3,h4,b1,hge,hcn];rw[hs]at hR;simp only[qab]at hR;generalize q7 (L.drop (n+1))=s at *;obtain⟨fv2,fb2,H2,hY,hf2,hfb2,hk2,hl2⟩:=hf.appendK (P:=Zp) (G:=GG) (o:=⟨true,qgd,[],[]⟩) (T:=[]) (m:=c.fields) (tok:=.none) D40 rfl D140 rfl (by omega) rfl (by decide) (fun x=>rfl) (by omega);have hb0:=hk2 _ _ b0 (by
   by_cases e:s.1.fields=[]
   . exact .inl e
   . exact .inr (Ne.symm (K8 b0 hf e)))
  have hb1:=hk2 _ _ b1 (by
   by_cases e:s.1.fields=[]
   . exact .inl e
   . exact .inr (Ne.symm (K8 b1 hf e)))
  have hac:=hf2.acells;have hat:=hf2.atom;simp[-getElem?_pos,hY,h3,hb1,hac];have hbk2:zi bb 2 qR (H2.set 1 (.cells [.str c0.name,.str [],fv2,bv])) bv s.1.blocks:=hbk.keep fun x hl hx=>by
   rw[qqX (Ne.symm (ZQ b1 hbk hl))];refine hk2 _ _ hx ?_;by_cases e:s.1.fields=[]
   . exact .inl e
   . exact .inr (Ne.symm (qhX hf hbk e hl))
  have hf3:zi fb2 5 q8 (H2.set 1 (.cells [.str c0.name,.str [],fv2,bv])) fv2 (s.1.fields++c.fields):=hf2.keep fun x hl hx=>by
   rw[qqX (Ne.symm (K8 hb1 hf2 hl))];exact hx
  have hb0':(H2.set 1 (.cells [.str c0.name,.str [],fv2,bv]))[0]?=some (.cells [.str [],.str [],.sl 0 [] .nil,.sl 0 [] .nil]):=by
   rw[qqX (by omega)];exact hb0
  have hb1':(H2.set 1 (.cells [.str c0.name,.str [],fv2,bv]))[1]?=some (.cells [.str c0.name,.str [],fv2,bv]):=by
   rw[qq4 (qqV.1 hb1).1]
  generalize H2.set 1 (.cells [.str c0.name,.str [],fv2,bv])=H3 at *;refine qv.listR c.blocks (fun d ev O=>ev 0=sC L/\ev 2=.ptr 0 0/\ev 3=.ptr 1 0/\ev 4=I_ n/\ev 5=I_ d.length/\∃ H bb bv,O=⟨H,[]⟩ /\
   H[0]?=some (.cells [.str [],.str [],.sl 0 [] .nil,.sl 0 [] .nil])/\H[1]?=some (.cells [.str c0.name,.str [],fv2,bv])/\zi fb2 5 q8 H fv2 (s.1.fields++c.fields)/\zi bb 2 qR H bv (d.foldl JO s.1.blocks)/\(d.foldl JO s.1.blocks).length<=s.1.blocks.length+d.length) ?_ ?_ ?_
  . exact⟨h0,h2,h3,h4,by simp,H3,bb,bv,rfl,hb0',hb1',hf3,hbk2,by simp⟩
  . clear h0 h2 h3 h4 hbk2 hf3 hb0' hb1' hY hf2 hfb2 hk2 hl2 hb0 hb1 hbk hf b0 b1 hR;rintro d v r ev O R hR hd hv hltb ⟨h0,h2,h3,h4,h5,H,bb,bv,rfl,b0,b1,hf,hbk,hln⟩;have hdw:=wq (n:=d.length) (by omega);simp[-getElem?_pos,h0,h3,h4,h5,hge,hcn,hltb,hv,qb b1];generalize hL2:d.foldl JO s.1.blocks=B at hbk hln;have hLn:B.length<=100000:=(by omega);have hbB:=hbk.keep (H':=H++[.cells (qR v)]) fun x _ hx=>qb hx _
    refine qd.lent (args':=[sB B,.str v.name]) (qcx B (by unfold Fits;omega) v.name) rfl ?_ ?_
    . have q:=hbB.frz (fun x=>by simp) (fun x=>by simp) (fun x=>by simp) 7;simp only[qqZ,qq9,zt,and_true];refine⟨by simpa using q,?_⟩;simp[Qi]
    have hput2:JO B v=if 0<=qF (fun y:Blc=>y.name==v.name) B 0 then B.set (qF (fun y:Blc=>y.name==v.name) B 0).toNat v else B++[v]:=rfl
    have hrng:=yn (p:=fun y:Blc=>y.name==v.name) (l:=B) (i:=0) (qso 0);have hfold:(d++[v]).foldl JO s.1.blocks=JO B v:=(by rw[qsL,hL2];rfl);generalize qF (fun y:Blc=>y.name==v.name) B 0=r at hput2 hrng ⊢;by_cases hr:0<=r
    . rw[if_pos hr]at hput2;obtain⟨m,rfl⟩:=qrj hr;have hm:m<B.length:=(by have:=(hrng hr).2;omega);have hne:B≠[]:=(by rintro rfl;simp at hm);obtain⟨rfl,hbc⟩:=hbk.at hne;have hms:(m:Int)<B.length:=(by omega);have hle:m*2+2<=(B.map fun _=>2).sum:=by
       have:∀ l:List Blc,(l.map fun _=>2).sum=l.length*2:=fun l=>by
        induction l with
        | nil=>rfl
        | cons a r ih=>simp[ih];omega
       rw[this];omega
      have hp3:((B.flatMap qR).set (m*2) (.str v.name)).set (m*2+1) (sI v.items)=(B.set m v).flatMap qR:=Q9 (en:=qR) (fun x=>rfl) B m v hm;simp[-getElem?_pos,h3,h5,hr,qb b1,hms,qb hbc,hle,hp3,zV hbc,hdw];refine hR _ _ ⟨h0,h2,h3,h4,by simp,_,bb,.ms bb 0 B.length 2,rfl,?_,?_,?_,?_,?_⟩
      . exact jh b0 (Ne.symm (ZQ b0 hbk hne))
      . exact jh b1 (Ne.symm (ZQ b1 hbk hne))
      . exact hf.keep fun x hl hx=>jh hx (qhX hf hbk hl hne)
      . rw[hfold,hput2];exact .inr ⟨by simp[hne],by simp,kL hbc⟩
      . rw[hfold,hput2];simp;omega
    . rw[if_neg hr]at hput2;obtain⟨bv4,H5,happ,hbb4,hk5,hl5⟩:=hbB.append (D:=Dof Zp) (T:=[]) (m:=[v]) (tok:=.tight) D41 rfl D52 rfl (by omega) rfl (by decide) (fun x=>rfl) (by simp;omega) (by simp);have hb5:=hk5 _ _ (qb b1 _) (by
       by_cases e:B=[]
       . exact .inl e
       . exact .inr (Ne.symm (ZQ b1 hbk e)))
      have hb50:=hk5 _ _ (qb b0 _) (by
       by_cases e:B=[]
       . exact .inl e
       . exact .inr (Ne.symm (ZQ b0 hbk e)))
      have hac4:=hbb4.acells;simp only[qqZ,qq9,qR]at happ;simp[-getElem?_pos,h3,h5,hr,qb b1,happ,hb5,hac4,hdw];refine hR _ _ ⟨h0,h2,h3,h4,by simp,_,(H++[Blk.cells (qR v)]).length,bv4,rfl,?_,?_,?_,?_,?_⟩
      . rw[qqX (by omega)];exact hb50
      . rw[qq4 (qqV.1 hb5).1]
      . refine hf.keep fun x hl hx=>?_
        rw[qqX (Ne.symm (K8 b1 hf hl))];refine hk5 _ _ (qb hx _) ?_;by_cases e:B=[]
        . exact .inl e
        . exact .inr (qhX hf hbk hl e)
      . rw[hfold,hput2];exact hbb4.keep fun x hl hx=>by rw[qqX (Ne.symm (ZQ hb5 hbb4 hl))];exact hx
      . rw[hfold,hput2];simp;omega
  . rintro ev O ⟨h0,h2,h3,h4,h5,H,bb,bv,rfl,b0,b1,hf,hbk,hln⟩;have hnw:IntKind.i64.wrap ((n:Int)-1)=(n:Int)-1:=wr (by omega) (by omega);simp[-getElem?_pos,h0,h4,h5,hge,hcn];exact hR _ _ (by omega) ⟨by omega,h0,h2,h3,by simp[hnw],H,fb2,bb,fv2,bv,rfl,b0,b1,hf,hbk⟩
section
attribute [local simp] acells fin zh ze pl1 plain pl2 AV.atom
theorem qcD {α:Type}[DecidableEq α]:∀ {a b:List α},a.Nodup->(∀ x∈a,x∈b)->a.length<=b.length
 | [],b,_,_=>by simp
 | x::r,b,hn,hs=>by
  rw[qr4]at hn;have hx:x∈b:=hs x (by simp);have ih:=qcD (a:=r) (b:=b.erase x) hn.2 fun y hy=>(List.mem_erase_of_ne (by rintro rfl;exact hn.1 hy)).2 (hs y (by simp[hy]))
  rw[List.length_erase_of_mem hx]at ih;have:=List.length_pos_of_mem hx;simp only[qq5];omega
def qbS (src:List Cls):Prop:=∀ c∈src,c.parent=[]\/(yI src c.parent).isSome=true
theorem qaT {src:List Cls}(hs:qbS src){c:Cls}(hc:c∈src)(hp:¬ c.parent=[]):yI src c.parent=some (yo src c.parent)/\yo src c.parent∈src:=by
 have:=(hs c hc).resolve_left hp;unfold yo
 cases e:yI src c.parent with
 | none=>rw[e]at this;cases this
 | some d=>exact⟨rfl,qrW e⟩
theorem qdX {src:List Cls}(hs:qbS src):∀ {f g:Nat} {c:Cls} {l:List Cls},c∈src->yE src f c=some l->f<=g->upS src g c=l
 | 0,g,c,l,hc,h,hg=>by
  simp only[yE]at h;split at h
  . rename_i hp;cases h;exact qaB hp g
  . cases h
 | f+1,g,c,l,hc,h,hg=>by
  simp only[yE]at h;split at h
  . rename_i hp;cases h;exact qaB hp g
  . rename_i hp;obtain⟨m,hm,rfl⟩:=qq0.1 h;obtain⟨e,hd⟩:=qaT hs hc hp;obtain⟨k,rfl⟩:∃ k,g=k+1:=⟨g-1,by omega⟩;rw[upS,if_neg hp,e];show c::upS src k _=_;rw[qdX hs hd hm (by omega)]
theorem up_pos (src:List Cls)(g:Nat)(c:Cls):1<=(upS src g c).length:=by
 cases g with
 | zero=>simp[upS]
 | succ g=>
  rw[upS];split
  . simp
  . split<;>simp
theorem qgZ {src:List Cls}(hs:qbS src):∀ {f g:Nat} {c:Cls},c∈src->yE src f c=none->f<=g->f+1<=(upS src g c).length
 | 0,g,c,hc,h,hg=>up_pos src g c
 | f+1,g,c,hc,h,hg=>by
  simp only[yE]at h;split at h
  . cases h
  . rename_i hp;have hm:=qtX.1 h;obtain⟨e,hd⟩:=qaT hs hc hp;obtain⟨k,rfl⟩:∃ k,g=k+1:=⟨g-1,by omega⟩;rw[upS,if_neg hp,e];have:=qgZ hs hd hm (show f<=k by omega);show _<=(c::upS src k _).length;simp only[qq5];omega
theorem qlC {src:List Cls}(hs:qbS src){f g:Nat}{c:Cls}{l m:List Cls}(hc:c∈src)(h:yE src f c=some l)(h':yE src g c=some m):l=m:=by
 rw[<- qdX hs hc h (Nat.le_max_left f g),<- qdX hs hc h' (Nat.le_max_right f g)]
theorem qgY {src:List Cls}:∀ {f:Nat} {c:Cls} {l:List Cls},yE src f c=some l->∀ x∈l,∃ k m,yE src k x=some m/\∃ a,l=a++m
 | 0,c,l,h,x,hx=>by
  have h0:=h;simp only[yE]at h;split at h
  . cases h;simp at hx;subst hx;exact⟨0,_,h0,[],rfl⟩
  . cases h
 | f+1,c,l,h,x,hx=>by
  have h0:=h;simp only[yE]at h;split at h
  . cases h;simp at hx;subst hx;exact⟨f+1,_,h0,[],rfl⟩
  . obtain⟨m,hm,rfl⟩:=qq0.1 h;rcases qra.1 hx with rfl|hx
    . exact⟨f+1,_,h0,[],rfl⟩
    . obtain⟨k,q,h1,a,h2⟩:=qgY hm x hx;exact⟨k,q,h1,c::a,by rw[h2];rfl⟩
theorem qjq {src:List Cls}(hn:(src.map Cls.name).Nodup):∀ {x y:Cls},x∈src->y∈src->x.name=y.name->x=y:=by
 induction src with
 | nil=>intro x y hx;cases hx
 | cons a r ih=>
  intro x y hx hy e;rw[qqZ,qr4]at hn;rcases qra.1 hx with hx1|hx1<;>rcases qra.1 hy with hy1|hy1
  . rw[hx1,hy1]
  . exact absurd (qq3.2 ⟨y,hy1,by rw[<- e,hx1]⟩) hn.1
  . exact absurd (qq3.2 ⟨x,hx1,by rw[e,hy1]⟩) hn.1
  . exact ih hn.2 hx1 hy1 e
theorem qdY {src:List Cls}(hs:qbS src)(hn:(src.map Cls.name).Nodup):∀ {f:Nat} {c:Cls} {l:List Cls},c∈src->yE src f c=some l->(l.map Cls.name).Nodup
 | 0,c,l,hc,h=>by
  simp only[yE]at h;split at h
  . cases h;simp
  . cases h
 | f+1,c,l,hc,h=>by
  have h0:=h;simp only[yE]at h;split at h
  . cases h;simp
  . rename_i hp;obtain⟨m,hm,rfl⟩:=qq0.1 h;obtain⟨e,hd⟩:=qaT hs hc hp;rw[qqZ,qr4];refine⟨fun hx0=>?_,qdY hs hn hd hm⟩;obtain⟨x,hx,hxn⟩:=qq3.1 hx0;clear hx0;have hxs:=W7 hs hd hm x hx;have:=qjq hn hxs hc hxn;subst this;obtain⟨k,q,h1,a,h2⟩:=qgY hm x hx;have:=qlC hs hc h0 h1;have hl:=congrArg List.length this;rw[h2]at hl;simp at hl;omega
theorem anc_le {src:List Cls}(hs:qbS src)(hn:(src.map Cls.name).Nodup){f:Nat}{c:Cls}{l:List Cls}(hc:c∈src)(h:yE src f c=some l):l.length<=src.length:=by
 have:=qcD (qdY hs hn hc h) (b:=src.map Cls.name) fun x hx=>by
  obtain⟨y,hy,rfl⟩:=qq3.1 hx;exact qq3.2 ⟨y,W7 hs hc h y hy,rfl⟩
 simpa using this
theorem qm9 {src:List Cls}(hs:qbS src)(hn:(src.map Cls.name).Nodup)(h32:src.length<=32){c:Cls}(hc:c∈src):decide (src.length<(upS src 32 c).length)=(yE src src.length c).isNone:=by
 cases e:yE src src.length c with
 | none=>
  have:=qgZ hs hc e h32;simp;omega
 | some l=>
  rw[qdX hs hc e h32];have:=anc_le hs hn hc e;simp;omega
theorem Qk:∀ (l:List Cls) (f:Fld),f∈(q7 l).1.fields↔∃ c∈l,f∈c.fields
 | [],f=>by simp[q7,Z7]
 | c::r,f=>by
  have e:q7 (c::r)=qab c (q7 r):=rfl;rw[e];simp only[qab,qre,Qk r f,qra];constructor
  . rintro (⟨x,hx,hf⟩|hf)
    . exact⟨x,.inr hx,hf⟩
    . exact⟨c,.inl rfl,hf⟩
  . rintro⟨x,rfl|hx,hf⟩
    . exact .inr hf
    . exact .inl ⟨x,hx,hf⟩
theorem Yh {l m:List Fld}:jW l m=true↔∃ x∈m,∃ y∈l,y.name=x.name:=by
 simp[jW]
def qqj:List Cls->Bool
 | []=>false
 | c::r=>r.any fun x=>jW x.fields c.fields
theorem qam (c:Cls)(r:List Cls):jW (q7 r).1.fields c.fields=qqj (c::r):=by
 rw[qr5,Yh];show _↔(r.any fun x=>jW x.fields c.fields)=true;rw[qq2];constructor
 . rintro⟨x,hx,y,hy,e⟩;obtain⟨d,hd,hyd⟩:=(Qk r y).1 hy;exact⟨d,hd,Yh.2 ⟨x,hx,y,hyd,e⟩⟩
 . rintro⟨d,hd,h⟩;obtain⟨x,hx,y,hy,e⟩:=Yh.1 h;exact⟨x,hx,y,(Qk r y).2 ⟨d,hd,hy⟩,e⟩
theorem qal:∀ {l:List Cls},(q7 l).2=true->∃ c r a,l=a++c::r/\qqj (c::r)=true
 | [],h=>by simp[q7]at h
 | c::r,h=>by
  have e:(q7 (c::r)).2=((q7 r).2||jW (q7 r).1.fields c.fields):=rfl;rw[e,qrV,qam]at h;rcases h with h|h
  . obtain⟨d,q,a,rfl,hq⟩:=qal h;exact⟨d,q,c::a,rfl,hq⟩
  . exact⟨c,r,[],rfl,h⟩
theorem qlg {c:Cls}{r:List Cls}(h:qqj (c::r)=true):(q7 (c::r)).2=true:=by
 have e:(q7 (c::r)).2=((q7 r).2||jW (q7 r).1.fields c.fields):=rfl;rw[e,qam,h,Bool.or_true]
end
section
attribute [local simp] acells fin zh ze pl1 plain pl2 AV.atom
theorem qap {src:List Cls}:∀ {f:Nat} {c:Cls} {l a:List Cls} {x:Cls} {q:List Cls},yE src f c=some l->l=a++x::q->∃ k,yE src k x=some (x::q)
 | 0,c,l,a,x,q,h,e=>by
  have h0:=h;simp only[yE]at h;split at h
  . cases h
    cases a with
    | nil=>cases e;exact⟨0,h0⟩
    | cons y a=>simp at e
  . cases h
 | f+1,c,l,a,x,q,h,e=>by
  have h0:=h;simp only[yE]at h;split at h
  . cases h
    cases a with
    | nil=>cases e;exact⟨f+1,h0⟩
    | cons y a=>simp at e
  . obtain⟨m,hm,rfl⟩:=qq0.1 h
    cases a with
    | nil=>cases e;exact⟨f+1,h0⟩
    | cons y a=>
     simp only[qrd,List.cons.injEq]at e;exact qap hm e.2
def qaQ (src:List Cls):Int :=
 if 32<src.length then 2
 else if qh ZX src≠0 then qh ZX src
 else if Z3 Cls.name src=true then 8
 else if src.any (wW src)=true then 7
 else if src.any (fun c=>decide (src.length<(upS src 32 c).length))=true then 10
 else if src.any (fun c=>qqj (upS src 32 c))=true then 8
 else if src.any (fun c=>Zz (q7 (upS src 32 c)).1)=true then 2
 else 0
theorem qgX {α:Type}{l:List α}{f g:α->Bool}(h:∀ x∈l,f x=g x):l.any f=l.any g:=by
 induction l with
 | nil=>rfl
 | cons a r ih=>simp only[qsS,h a (by simp),ih fun x hx=>h x (by simp[hx])]
theorem qlr {src:List Cls}(h:¬ src.any (wW src)=true):qbS src:=fun c hc=>by
 by_cases hp:c.parent=[]
 . exact .inl hp
 . right
   cases e:yI src c.parent with
   | some x=>rfl
   | none=>exact absurd (qq2.2 ⟨c,hc,by simp[wW,hp,e]⟩) h
theorem Km {src:List Cls}(hs:qbS src)(h32:src.length<=32){c:Cls}(hc:c∈src)(h:(yE src src.length c).isNone=false):upS src 32 c=j4 src c/\yE src src.length c=some (j4 src c):=by
 cases e:yE src src.length c with
 | none=>rw[e]at h;cases h
 | some l=>
  have:j4 src c=l:=by unfold j4;rw[e];rfl
  exact⟨by rw[qdX hs hc e h32,this],by rw[this]⟩
theorem qjI (src:List Cls):qaQ src=kq src:=by
 unfold qaQ kq QO;split
 . rfl
 rename_i h32;split
 . rfl
 split
 . simp
 rename_i hn;have hn:=J1 (by simpa using hn);have e2:(src.any fun c=>!decide (c.parent=[])&&(yI src c.parent).isNone)=src.any (wW src):=rfl;rw[e2];by_cases hb:src.any (wW src)=true
 . simp[hb]
 have hs:=qlr hb;simp only[if_neg hb,ne_eq,not_true_eq_false,if_false];rw[qgX (f:=fun c=>decide (src.length<(upS src 32 c).length)) fun c hc=>qm9 hs hn (by omega) hc];split
 . rfl
 rename_i ha;have ha:∀ c∈src,(yE src src.length c).isNone=false:=fun c hc=>by
  have:=qrx.1 (qsa _▸ha) c hc;exact qrG.2 this
 have hup:∀ c∈src,upS src 32 c=j4 src c:=fun c hc=>(Km hs (by omega) hc (ha c hc)).1
 rw[qgX (f:=fun c=>Zz (q7 (upS src 32 c)).1) fun c hc=>by rw[hup c hc]];have e3:(src.any fun c=>qqj (upS src 32 c))=src.any fun c=>(q7 (j4 src c)).2:=by
  rw[qr5,qq2,qq2];constructor
  . rintro⟨c,hc,h⟩;rw[hup c hc]at h;have hl:=(Km hs (by omega) hc (ha c hc)).2;obtain⟨r,hr⟩:=qdZ hl;rw[hr]at h;exact⟨c,hc,by rw[hr];exact qlg h⟩
  . rintro⟨c,hc,h⟩;have hl:=(Km hs (by omega) hc (ha c hc)).2;obtain⟨d,q,a,hsp,hi⟩:=qal h;have hd:d∈src:=W7 hs hc hl d (by rw[hsp];simp);obtain⟨k,hk⟩:=qap hl hsp;have hl2:=(Km hs (by omega) hd (ha d hd)).2;refine⟨d,hd,?_⟩;rw[hup d hd,<- qlC hs hd hk hl2];exact hi
 rw[e3]
end
structure StrC (c:Cls):Prop where
 n:Fits c.name
 p:Fits c.parent
 f:∀ f∈c.fields,Fits f.name
 b:∀ b∈c.blocks,Fits b.name
theorem qny {src:List Cls}{i:Nat}{s:Str}:(yI (src.take i) s).isSome=(src.take i).any fun y=>y.name==s:=by
 unfold yI;rw[qr5,List.find?_isSome,qq2]
theorem qpg {src:List Cls}:∀ {g:Nat} {c:Cls},∀ x∈upS src g c,x=c\/x∈src
 | 0,c,x,hx=>by simp[upS]at hx;exact .inl hx
 | g+1,c,x,hx=>by
  rw[upS]at hx;split at hx
  . simp at hx;exact .inl hx
  . split at hx
    . rename_i d hd;rcases qra.1 hx with rfl|hx
      . exact .inl rfl
      . rcases qpg x hx with rfl|h
        . exact .inr (qrW hd)
        . exact .inr h
    . simp at hx;exact .inl hx
theorem qel (src:List Cls)(g:Nat)(c:Cls):∃ r,upS src g c=c::r:=by
 cases g with
 | zero=>exact⟨[],rfl⟩
 | succ g=>
  rw[upS];split
  . exact⟨[],rfl⟩
  . split
    . exact⟨_,rfl⟩
    . exact⟨[],rfl⟩
theorem qi9 (src:List Cls):∀ (g:Nat) (c:Cls),(upS src g c).length<=g+1
 | 0,c=>by simp[upS]
 | g+1,c=>by
  rw[upS];split
  . simp
  . split
    . rename_i d hd;have:=qi9 src g d;simp only[qq5];omega
    . simp
theorem qbO {α:Type}{l:List α}{f:α->Bool}(h:∀ x∈l,f x=false):¬ l.any f=true:=by
 rw[qsa,qrx];exact fun x hx=>by simp[h x hx]
theorem JM {α:Type}{l:List α}{f:α->Bool}{x:α}(hx:x∈l)(h:f x=true):l.any f=true:=qq2.2 ⟨x,hx,h⟩
theorem qjJ (src:List Cls)(hl:src.length<=900)(hc:∀ c∈src,LowC c)(hs:∀ c∈src,StrC c):PZ 202 [sC src] (I_ (kq src)):=by
 refine Pure.k qg Tryz.func202 rfl (by kernel_rfl) ?_;have hfit:Fits src:=by unfold Fits;omega
 rw[<- qjI];have hr:qaQ src=if 32<src.length then 2 else if qh ZX src≠0 then qh ZX src else if Z3 Cls.name src=true then 8 else if src.any (wW src)=true then 7
  else if src.any (fun c=>decide (src.length<(upS src 32 c).length))=true then 10 else if src.any (fun c=>qqj (upS src 32 c))=true then 8 else if src.any (fun c=>Zz (q7 (upS src 32 c)).1)=true then 2 else 0:=rfl
 generalize qaQ src=r at hr;by_cases h32:32<src.length
 . rw[if_pos h32]at hr;subst hr;have h32':(32:Int)<src.length:=(by omega);simp[-getElem?_pos,h32']
 rw[if_neg h32]at hr;have h32':¬ (32:Int)<src.length:=by omega
 simp[-getElem?_pos,h32'];refine qv.listR src (fun d ev O=>ev 0=sC src/\ev 3=I_ d.length/\(∃ H,O=⟨H,[]⟩)/\∀ c∈d,ZX c=0) ?_ ?_ ?_
 . exact⟨by simp,by simp,⟨_,rfl⟩,by simp⟩
 . rintro d c rest ev O R hR hd hx hlt ⟨h0,h3,⟨H,rfl⟩,hz⟩;have hdw:=wq (n:=d.length) (by omega);have hcm:=qqW hx;have hlo:=hc c hcm;have hst:=hs c hcm;have hv:=qco c hst.n hst.p (by have:=hlo.nf;unfold Fits;omega) hst.f (by have:=hlo.nb;unfold Fits;omega) hst.b;simp[-getElem?_pos,h0,h3,hlt,hx];refine qd.call hv (by simp) ?_;by_cases f0:ZX c=0
   . simp[-getElem?_pos,h3,f0,hdw];exact hR _ _ ⟨h0,by simp,⟨_,rfl⟩,zu hz f0⟩
   . have e:qh ZX src=ZX c:=(by rw[hd];exact ja hz f0);rw[e,if_pos f0]at hr;subst hr;simp[-getElem?_pos,f0]
 rintro ev O ⟨h0,h3,⟨H,rfl⟩,hz0⟩;rw[if_neg (by rw[qr.2 hz0];simp)]at hr;simp[-getElem?_pos,h0,h3];refine qv.listR src (fun d ev O=>ev 0=sC src/\ev 5=I_ d.length/\(∃ H,O=⟨H,[]⟩)/\∀ (i:Nat) (x:Cls),i<d.length->src[i]?=some x->((src.take i).any fun y=>y.name==x.name)=false) ?_ ?_ ?_
 . exact⟨h0,by simp,⟨_,rfl⟩,by simp⟩
 . clear h0 h3;rintro d c rest ev O R hR hd hx hlt ⟨h0,h3,⟨H,rfl⟩,hz⟩;have hdw:=wq (n:=d.length) (by omega);have hv:=Y1 (src.take d.length) (by unfold Fits;rw[qrT];omega) c.name;rw[qny,sC,List.map_take]at hv;have hsp:=Kz (sz:=4) (rows:=src.map qn) (i:=d.length) (by simp;omega);have hnr:zp (List.take d.length (List.map qn src))=true:=(by rw[<- List.map_take];exact nrCls _);simp[-getElem?_pos,h0,h3,hlt,hx,hsp];refine qd.call hv (by simp[hnr]) ?_
   cases f0:((src.take d.length).any fun y=>y.name==c.name) with
   | true=>
    rw[if_pos (qey hx f0)]at hr;subst hr;simp[-getElem?_pos]
   | false=>
    simp[-getElem?_pos,h3,hdw];refine hR _ _ ⟨h0,by simp,⟨_,rfl⟩,fun i x hi hix=>?_⟩;rw[qqY,qq8]at hi;by_cases e:i<d.length
    . exact hz i x e hix
    . have:i=d.length:=by omega
      subst this;rw[hx]at hix;cases hix;exact f0
 clear h0 h3;rintro ev O ⟨h0,h3,⟨H,rfl⟩,hz1⟩;have hrep:Z3 Cls.name src=false:=KM fun i x hix=>hz1 i x (qqV.1 hix).1 hix
 rw[if_neg (by rw[hrep];simp)]at hr;simp[-getElem?_pos,h0,h3];refine qv.listR src (fun d ev O=>ev 0=sC src/\ev 8=I_ d.length/\(∃ H,O=⟨H,[]⟩)/\∀ c∈d,wW src c=false) ?_ ?_ ?_
 . exact⟨h0,by simp,⟨_,rfl⟩,by simp⟩
 . clear h0 h3;rintro d c rest ev O R hR hd hx hlt ⟨h0,h3,⟨H,rfl⟩,hz⟩;have hdw:=wq (n:=d.length) (by omega);have hv:=Y1 src hfit c.parent;simp[-getElem?_pos,h0,h3,hlt,hx];refine qd.call hv (by simp) ?_
   cases hb:wW src c with
   | true=>
    rw[if_pos (JM (qqW hx) hb)]at hr;subst hr;simp only[wW,qq1,qsq,decide_eq_false_iff_not,qtG]at hb;simp[-getElem?_pos,h0,h3,hb.1,hb.2,hx]
   | false=>
    have hb':=hb;simp only[wW,qt4,qtx,decide_eq_true_eq,qtz]at hb';by_cases hp:c.parent=[]
    . simp[-getElem?_pos,h0,h3,hp,hx,hdw];exact hR _ _ ⟨h0,by simp,⟨_,rfl⟩,zu hz hb⟩
    . simp[-getElem?_pos,h0,h3,hp,hb'.resolve_left hp,hx,hdw];exact hR _ _ ⟨h0,by simp,⟨_,rfl⟩,zu hz hb⟩
 clear h0 h3;rintro ev O ⟨h0,h3,⟨H,rfl⟩,hz2⟩;rw[if_neg (qbO hz2)]at hr;simp[-getElem?_pos,h0,h3];refine qv.listR src (fun d ev O=>ev 0=sC src/\ev 11=I_ d.length/\(∃ H,O=⟨H,[]⟩)/\∀ c∈d,decide (src.length<(upS src 32 c).length)=false) ?_ ?_ ?_
 . exact⟨h0,by simp,⟨_,rfl⟩,by simp⟩
 . clear h0 h3;rintro d c rest ev O R hR hd hx hlt ⟨h0,h3,⟨H,rfl⟩,hz⟩;have hdw:=wq (n:=d.length) (by omega);have hv:=qf1 src (by omega) c;simp[-getElem?_pos,h0,h3,hlt,hx];refine qd.call hv (by simp) ?_;by_cases hg:src.length<(upS src 32 c).length
   . rw[if_pos (JM (qqW hx) (by simpa using hg))]at hr;subst hr;have hg':(src.length:Int)<(upS src 32 c).length:=(by omega);simp[-getElem?_pos,h0,hg']
   . have hg':¬ (src.length:Int)<(upS src 32 c).length:=(by omega);simp[-getElem?_pos,h0,h3,hg',hdw];exact hR _ _ ⟨h0,by simp,⟨_,rfl⟩,zu hz (by simpa using hg)⟩
 clear h0 h3;rintro ev O ⟨h0,h3,⟨H,rfl⟩,hz3⟩;rw[if_neg (qbO hz3)]at hr;simp[-getElem?_pos,h0,h3];refine qv.listR src (fun d ev O=>ev 0=sC src/\ev 12=I_ d.length/\(∃ H,O=⟨H,[]⟩)/\∀ c∈d,qqj (upS src 32 c)=false) ?_ ?_ ?_
 . exact⟨h0,by simp,⟨_,rfl⟩,by simp⟩
 . clear h0 h3;rintro d c rest ev O R hR hd hx hlt ⟨h0,h3,⟨H,rfl⟩,hz⟩;have hdw:=wq (n:=d.length) (by omega);have hcm:=qqW hx;have hv:=qf1 src (by omega) c;have hin:=qpg (src:=src) (g:=32) (c:=c);have hul:=qi9 src 32 c;obtain⟨q,hq⟩:=qel src 32 c;rw[hq]at hv hin hul;have hlow:∀ x∈c::q,LowC x:=fun x hx=>(hin x hx).elim (fun e=>e▸hc c hcm) (hc x)
   have hi:=qcW c q (by simp at hul;omega) (by have:=(hc c hcm).nf;omega) fun x hx=>by have:=(hlow x (by simp[hx])).nf;unfold Fits;omega
   simp[-getElem?_pos,h0,h3,hlt,hx];refine qd.call hv (by simp) ?_;simp[-getElem?_pos];refine qd.call hi (by simp) ?_
   cases f0:(q.any fun x=>jW x.fields c.fields) with
   | true=>
    rw[if_pos (JM hcm (by rw[hq];exact f0))]at hr;subst hr;simp[-getElem?_pos]
   | false=>
    simp[-getElem?_pos,h3,hdw];exact hR _ _ ⟨h0,by simp,⟨_,rfl⟩,zu hz (by rw[hq];exact f0)⟩
 clear h0 h3;rintro ev O ⟨h0,h3,⟨H,rfl⟩,hz4⟩;rw[if_neg (qbO hz4)]at hr;simp[-getElem?_pos,h0,h3];refine qv.listR src (fun d ev O=>ev 0=sC src/\ev 13=I_ d.length/\(∃ H,O=⟨H,[]⟩)/\∀ c∈d,Zz (q7 (upS src 32 c)).1=false) ?_ ?_ ?_
 . exact⟨h0,by simp,⟨_,rfl⟩,by simp⟩
 . clear h0 h3;rintro d c rest ev O R hR hd hx hlt ⟨h0,h3,⟨H,rfl⟩,hz⟩;have hdw:=wq (n:=d.length) (by omega);have hcm:=qqW hx;have hv:=qf1 src (by omega) c;have hin:=qpg (src:=src) (g:=32) (c:=c);have hul:=qi9 src 32 c;obtain⟨q,hq⟩:=qel src 32 c;have hzl:Zz (q7 (upS src 32 c)).1=(decide (16<(q7 (c::q)).1.fields.length)||decide (16<(q7 (c::q)).1.blocks.length)):=(by rw[hq];rfl);rw[hq]at hv hin hul;have hlow:∀ x∈c::q,LowC x:=fun x hx=>(hin x hx).elim (fun e=>e▸hc c hcm) (hc x)
   have hfl:=qkR c q (by omega) fun x hx=>⟨(hlow x hx).nf,(hlow x hx).nb⟩
   simp[-getElem?_pos,h0,h3,hlt,hx];refine qd.call hv (by simp) ?_;simp[-getElem?_pos];refine qd.call hfl (by simp) ?_;generalize (q7 (c::q)).1=F at hzl ⊢;by_cases c1:16<F.fields.length
   . rw[if_pos (JM hcm (by rw[hzl];simp[c1]))]at hr;subst hr;have c1':(16:Int)<F.fields.length:=(by omega);simp[-getElem?_pos,c1']
   . have c1':¬ (16:Int)<F.fields.length:=(by omega);by_cases c2:16<F.blocks.length
     . rw[if_pos (JM hcm (by rw[hzl];simp[c2]))]at hr;subst hr;have c2':(16:Int)<F.blocks.length:=(by omega);simp[-getElem?_pos,c1',c2']
     . have c2':¬ (16:Int)<F.blocks.length:=(by omega);simp[-getElem?_pos,h3,c1',c2',hdw];exact hR _ _ ⟨h0,by simp,⟨_,rfl⟩,zu hz (by rw[hzl];simp[c1,c2])⟩
 clear h0 h3;rintro ev O ⟨h0,h3,⟨H,rfl⟩,hz5⟩;rw[if_neg (qbO hz5)]at hr;subst hr;simp[-getElem?_pos,h0,h3]
theorem qlj {src:List Cls}(h:kq src=0):src.length<=32:=by
 unfold kq at h;split at h
 . cases h
 . omega
theorem qkh {src:List Cls}(h:kq src=0){name:Str}{c:Cls}(hf:yI src name=some c):upS src 32 c=wc src name/\jR src name=0/\yo src name=c/\c∈src:=by
 have hs:=WS h;have hcm:c∈src:=qrW hf;have hd:yo src name=c:=by unfold yo;rw[hf];rfl
 have hE:jR src name=0:=by unfold jR;simp[h,hf]
 have hl:=hs.line c hcm;have:=(Km hs.names (qlj h) hcm (by cases e:yE src src.length c<;>simp_all)).1;refine⟨?_,hE,hd,hcm⟩;rw[this];unfold wc;rw[if_neg (by simp[hE]),hd]
theorem qmo (src:List Cls)(hl:src.length<=900)(hc:∀ c∈src,LowC c)(hs:∀ c∈src,StrC c)(name:Str):PZ 134 [sC src,.str name] (.tup [.sl 4 ((wc src name).map qn) .none,I_ (jR src name)]):=by
 refine Pure.k qg Tryz.func134 rfl (by kernel_rfl) ?_;simp;refine qd.call (qjJ src hl hc hs) (by simp) ?_;by_cases h0:kq src=0
 . simp[h0];refine qd.call (Y1 src (by unfold Fits;omega) name) (by simp) ?_
   cases hf:yI src name with
   | none=>
    have e1:jR src name=12:=(by unfold jR;simp[h0,hf]);have e2:wc src name=[]:=(by unfold wc;rw[if_pos (by rw[e1];decide)]);simp[e1,e2]
   | some c=>
    obtain⟨h1,h2,h3,h4⟩:=qkh h0 hf;have hv:=qf1 src (by omega) c;rw[h1]at hv;rw[h2,h3];simp;refine qd.call hv (by simp) ?_;simp
 . have e1:jR src name=kq src:=(by unfold jR;rw[if_pos h0]);have e2:wc src name=[]:=(by unfold wc;rw[if_pos (by rw[e1];exact h0)]);rw[e1,e2];simp[h0]
theorem qh1 {src:List Cls}{name:Str}(h:jR src name=0):∃ c r,wc src name=c::r:=by
 have h0:kq src=0:=by
  unfold jR at h;split at h
  . rename_i hn;exact absurd h hn
  . rename_i hn;exact qrF.1 hn
 cases hf:yI src name with
 | none=>unfold jR at h;simp[h0,hf]at h
 | some c=>
  obtain⟨h1,-⟩:=qkh h0 hf;obtain⟨r,hr⟩:=qel src 32 c;exact⟨c,r,by rw[<- h1,hr]⟩
theorem qki {src:List Cls}{name:Str}:(wc src name).length<=src.length+1:=by
 unfold wc;split
 . simp
 . unfold j4
   cases e:yE src src.length (yo src name) with
   | none=>simp
   | some l=>exact (qbQ e).2
theorem qhE (src:List Cls)(hl:src.length<=900)(hc:∀ c∈src,LowC c)(hs:∀ c∈src,StrC c)(name:Str):PZ 72 [sC src,.str name] (.tup [.agg (qn (qy src name)),I_ (jR src name)]):=by
 refine Pure.k qg Tryz.func72 rfl (by kernel_rfl) ?_;have hlow:=qcP hc name;have hlen:=qki (src:=src) (name:=name);have hS:qy src name=if jR src name≠0 then Z7 else (q7 (wc src name)).1:=rfl
 have hcons:=qh1 (src:=src) (name:=name);have hv:=qmo src hl hc hs name;generalize qy src name=F at *;generalize wc src name=L at *;generalize jR src name=e at *;simp;refine qd.call hv (by simp) ?_;by_cases h0:e=0
 . obtain⟨c,r,rfl⟩:=hcons h0;rw[if_neg (by simp[h0])]at hS;have hf:=qkR c r (by omega) fun x hx=>⟨(hlow x hx).nf,(hlow x hx).nb⟩
   rw[<- hS]at hf;simp[h0];refine qd.call hf (by simp) ?_;simp
   try simp[Leq,zt]
 . rw[if_pos h0]at hS;subst hS;simp[h0]
   try simp[Leq,zt]
def qpG:List (Nat×Sch×List Nat):=[(14,.step 0 [8,7,6,5,2,1] (.step 1 [8,7,6,5,2] (.step 2 [8,7,6,5] (.step 3 [8,7,6,5,4] (.step 4 [8,7,6,5] (.step 5 [8,7,6] (.step 6 [8,7] (.step 7 [8] (.step 8 [] (.done))))))))),[])]
theorem qpw (c:Cls)(hn:Fits c.name)(hp:Fits c.parent)(hf:Fits c.fields)(hfn:∀ f∈c.fields,Fits f.name)(hb:Fits c.blocks)(hbn:∀ b∈c.blocks,Fits b.name):PZ 75 [.agg (qn c)] (.sl 4 ((qf c).map qo) .none):=by
 refine Pure.kO ⟨false,qpG,[],[]⟩ false qg Tryz.func75 rfl (by kernel_rfl) ?_;have hr:qf c=if ZX c≠0 then [] else c.fields.flatMap yG:=rfl
 have hv:=qco c hn hp hf hfn hb hbn;generalize qf c=R at hr;simp[-getElem?_pos];refine qd.call hv (by simp) ?_;by_cases h0:ZX c=0
 . rw[if_neg (by simp[h0])]at hr;subst hr;have hok:=WQ h0;simp[-getElem?_pos,h0];refine qv.listR c.fields (fun d ev O=>ev 1=.ptr 0 0/\ev 3=ye 4 qo 0 (d.flatMap yG)/\ev 4=I_ d.length/\(d.flatMap yG).length<=d.length*9/\∃ H,O=⟨H,zG [] (d.flatMap yG)⟩ /\
    H[0]?=some (.cells [.str c.name,.str c.parent,sF c.fields,sB c.blocks])) ?_ ?_ ?_
   . exact⟨by simp,by simp,by simp,by simp,_,by simp;rfl,by simp⟩
   . rintro d f r ev O R hR hd hx hlt ⟨h1,h3,h4,hln,H,rfl,b0⟩;have hfo:=zk (hok.fields f (qqW hx));obtain⟨n,hn8⟩:=qrj hfo.s0;have hs8:=hfo.s8;have hnf:=hok.nf;have hdw:=wq (n:=d.length) (by omega);have hnl:f.name.length<=16:=j7 hfo.name;have hvf:yG f=(if f.size=0 then [⟨f.name,f.width,f.mode,f.init⟩] else [])++(List.range n).map fun i=>⟨qH f.name i,f.width,f.mode,f.init⟩:=by
      unfold yG;rw[hn8];rfl
     have hdv:(d++[f]).flatMap yG=d.flatMap yG++yG f:=(by simp);generalize d.flatMap yG=D at *;simp[-getElem?_pos,-Y6,h1,h4,hlt,hx,b0];obtain⟨E,hE⟩:∃ E,E=D++(if f.size=0 then [(⟨f.name,f.width,f.mode,f.init⟩:Var)] else []):=⟨_,rfl⟩;have hEl:E.length+n<=d.length*9+9:=by
      rw[hE,qqY];split<;>simp<;>omega
     have hDe:(d++[f]).flatMap yG=E++(List.range n).map fun i=>⟨qH f.name i,f.width,f.mode,f.init⟩:=by rw[hdv,hvf,hE,qri]
     refine qbd (fun ev O=>ev 1=.ptr 0 0/\ev 3=ye 4 qo 0 E/\ev 4=I_ d.length/\ev 5=.ptr H.length 0/\ev 6=.ptr (H.length+1) 0 /\
      O=⟨H++[.cells (q8 f),.cells [.str f.name,I_ f.width,I_ f.mode,I_ f.init]],zG [] E⟩) ?_ ?_
     . by_cases z0:f.size=0
       . rw[if_pos z0]at hE;have hX:=zq (D:=Dof Zp) (H:=H++[.cells (q8 f),.cells [.str f.name,I_ f.width,I_ f.mode,I_ f.init]]) (sz:=4) (en:=qo) (T:=[]) (s:=D) (m:=[⟨f.name,f.width,f.mode,f.init⟩]) (tok:=.tight) D31 rfl D65 rfl (by omega) rfl (by decide) (by simp only[qq8];omega) 4 (.inl rfl);rw[<- hE]at hX;simp only[qqZ,qq9,qo,q8,z0,qrt]at hX;simp[-getElem?_pos,h1,h3,h4,z0,hX]
       . rw[if_neg z0,qrl]at hE;subst hE;simp[-getElem?_pos,h1,h3,h4,z0]
     clear h1 h3 h4;rintro ev O ⟨h1,h3,h4,h5,h6,rfl⟩;have b5:(H++[.cells (q8 f),.cells [.str f.name,I_ f.width,I_ f.mode,I_ f.init]])[H.length]?=some (.cells [.str f.name,I_ f.width,I_ f.size,I_ f.mode,I_ f.init]):=(by simp);simp[-getElem?_pos];refine qv.count n (fun k ev O=>ev 1=.ptr 0 0/\ev 3=ye 4 qo 0 (E++(List.range k).map fun i=>⟨qH f.name i,f.width,f.mode,f.init⟩)/\ev 4=I_ d.length/\ev 5=.ptr H.length 0/\ev 6=.ptr (H.length+1) 0/\ev 7=I_ k /\
      ∃ nm,O=⟨H++[.cells [.str f.name,I_ f.width,I_ f.size,I_ f.mode,I_ f.init],.cells [.str nm,I_ f.width,I_ f.mode,I_ f.init]],zG [] (E++(List.range k).map fun i=>⟨qH f.name i,f.width,f.mode,f.init⟩)⟩) ?_ ?_ ?_
     . exact⟨by simp[h1],by simp[h3],by simp[h4],by simp[h5],by simp[h6],by simp,f.name,by simp⟩
     . clear h1 h3 h4 h5 h6;rintro k ev O hkn ⟨h1,h3,h4,h5,h6,h7,nm,rfl⟩;have hkn':(k:Int)<n:=(by omega);have hkw:=wq (n:=k) (by omega);have hit:=qdb k (by omega);obtain⟨ch,hch,hnm⟩:∃ ch,UInt8.ofNat (48+k)=ch/\f.name++[91,ch,93]=qH f.name k:=⟨_,rfl,rfl⟩;rw[hch]at hit;have hl1:f.name.length+1<=4611686018427387904:=(by omega);have hl2':f.name.length+1+1<=4611686018427387904:=(by omega);have hl3':f.name.length+1+1+1<=4611686018427387904:=(by omega);have hrs:(List.range (k+1)).map (fun i=>(⟨qH f.name i,f.width,f.mode,f.init⟩:Var))=(List.range k).map (fun i=>(⟨qH f.name i,f.width,f.mode,f.init⟩:Var))++[⟨qH f.name k,f.width,f.mode,f.init⟩]:=(by rw[qrX,qrf];rfl);rw[hrs,<- qri];have hQl:(E++(List.range k).map fun i=>(⟨qH f.name i,f.width,f.mode,f.init⟩:Var)).length=E.length+k:=(by simp);generalize (E++(List.range k).map fun i=>(⟨qH f.name i,f.width,f.mode,f.init⟩:Var))=Q at *;have c5:(H++[.cells [.str f.name,I_ f.width,I_ f.size,I_ f.mode,I_ f.init],.cells [.str nm,I_ f.width,I_ f.mode,I_ f.init]])[H.length]?=some (.cells [.str f.name,I_ f.width,I_ f.size,I_ f.mode,I_ f.init]):=(by simp);have c6:(H++[.cells [.str f.name,I_ f.width,I_ f.size,I_ f.mode,I_ f.init],.cells [.str nm,I_ f.width,I_ f.mode,I_ f.init]])[H.length+1]?=some (.cells [.str nm,I_ f.width,I_ f.mode,I_ f.init]):=(by simp);simp[-getElem?_pos,h5,h7,hn8,hkn'];rw[zJ rfl];simp[-getElem?_pos,zR,h5,h7,hl1];refine qd.call hit rfl ?_;simp[-getElem?_pos,zR,h3,h6,hl2',hl3'];rw[hnm];have hX:=zq (D:=Dof Zp) (H:=H++[.cells [.str f.name,I_ f.width,I_ n,I_ f.mode,I_ f.init],.cells [.str (qH f.name k),I_ f.width,I_ f.mode,I_ f.init]]) (sz:=4) (en:=qo) (T:=[]) (s:=Q) (m:=[⟨qH f.name k,f.width,f.mode,f.init⟩]) (tok:=.tight) D31 rfl D65 rfl (by omega) rfl (by decide) (by simp only[qq8];omega) 4 (.inl rfl);simp only[qqZ,qq9,qo,qrt]at hX;simp[-getElem?_pos,h1,h4,h5,h6,h7,hX,hkw]
       try exact⟨_,by rw[hn8]⟩
     . clear h1 h3 h4 h5 h6;rintro ev O ⟨h1,h3,h4,h5,h6,h7,nm,rfl⟩;have c5:(H++[.cells [.str f.name,I_ f.width,I_ f.size,I_ f.mode,I_ f.init],.cells [.str nm,I_ f.width,I_ f.mode,I_ f.init]])[H.length]?=some (.cells [.str f.name,I_ f.width,I_ f.size,I_ f.mode,I_ f.init]):=(by simp);simp[-getElem?_pos,h4,h5,h7,hn8,hdw];refine hR _ _ ⟨by simp[h1],by rw[hDe];simp[h3],by simp,by rw[hDe];simp;omega,_,by rw[hDe],qb b0 _⟩
   . rintro ev O ⟨h1,h3,h4,hln,H,rfl,b0⟩;simp[-getElem?_pos,h1,h3,h4,b0]
 . rw[if_pos h0]at hr;subst hr;simp[-getElem?_pos,h0]
def qd7 (l:List Var)(s:Str)(n:Nat):List Int:=((List.range n).map fun k=>ka l (qH s k)).filter fun i=>decide (0<=i)
def Vb (l:List Var)(s:Str):List Int:=if 0<=ka l s then [ka l s] else qd7 l s 8
theorem qdy (l:List Var)(s:Str)(n:Nat):qd7 l s (n+1)=qd7 l s n++(if 0<=ka l (qH s n) then [ka l (qH s n)] else []):=by
 unfold qd7;rw[qrX,qrf,qrI];congr 1;simp only[qqZ,qq9,qsg,List.filter_nil,decide_eq_true_eq]
theorem qgP (l:List Var)(s:Str)(n:Nat):(qd7 l s n).length<=n:=by
 unfold qd7;refine qrN (qrr _ _) ?_;simp
theorem VY (l:List Var)(s:Str)(hl:Fits l)(hs:s.length<=1000):PZ 214 [sV l,.str s] (.sl 1 ((Vb l s).map qY) .none):=by
 refine Pure.k qg Tryz.func214 rfl (by kernel_rfl) ?_;have hf:∀ t,PZ 139 [sV l,.str t] (I_ (ka l t)):=fun t=>Wy GG l t hl
 have hr:Vb l s=if 0<=ka l s then [ka l s] else qd7 l s 8:=rfl
 generalize Vb l s=r at hr;simp;refine qd.call (hf s) (by simp) ?_;by_cases h0:0<=ka l s
 . rw[if_pos h0]at hr;subst hr;simp[h0]
 . rw[if_neg h0]at hr;subst hr;simp[h0];refine qv.count 8 (fun k ev O=>ev 0=sV l/\ev 1=.str s/\ev 6=ye 1 qY 0 (qd7 l s k)/\ev 7=I_ k/\∃ H,O=⟨H,zG [] (qd7 l s k)⟩) ?_ ?_ ?_
   . exact⟨by simp,by simp,by simp[qd7],by simp,_,by simp[qd7];rfl⟩
   . rintro k ev O hk ⟨h0,h1,h6,h7,H,rfl⟩;have hk':(k:Int)<8:=(by omega);have hkw:=wq (n:=k) (by omega);have hlen:=qgP l s k;have hv:=hf (qH s k);rw[qdy];simp[h0,h1,h7,hk'];refine qd.call (Zk s k hk hs) (by simp) ?_;simp;refine qd.call hv (by simp) ?_;by_cases hi:0<=ka l (qH s k)
     . have hX:=zq (D:=Dof Zp) (H:=H) (sz:=1) (en:=qY) (T:=[]) (s:=qd7 l s k) (m:=[ka l (qH s k)]) (tok:=.tight) D28 rfl D3 rfl (by omega) rfl (by decide) (by simp only[qq8];omega) 1 (.inl rfl);simp only[qqZ,qq9,qY,qrt]at hX;simp[h0,h1,h6,h7,hi,hX,hkw]
     . simp[h0,h1,h6,h7,hi,hkw]
   . rintro ev O ⟨h0,h1,h6,h7,H,rfl⟩;simp[h6,h7]
theorem qkx {l:List Var}{s:Str}(h:0<=ka l s):ka l s<l.length:=by
 have:=yn (p:=fun v:Var=>v.name==s) (l:=l) (i:=0) (qso 0) h;unfold ka at *;omega
theorem qeT {l:List Var}{s:Str}{i:Int}(h:i∈Vb l s):0<=i/\i<l.length:=by
 unfold Vb at h;split at h
 . rename_i h0;simp only[qrM]at h;subst h;exact⟨h0,qkx h0⟩
 . unfold qd7 at h;obtain⟨h1,h2⟩:=qrz.1 h;obtain⟨k,_,rfl⟩:=qq3.1 h1;have h2:=of_decide_eq_true h2;exact⟨h2,qkx h2⟩
theorem Y5 (l:List Var)(s:Str):(Vb l s).length<=8:=by
 unfold Vb;split
 . simp
 . exact qgP l s 8
def Y2 (l:List Var)(names:List Str):List Int:=(names.flatMap (Vb l)).filter (zW l)
theorem qjL (l:List Var)(d:List Str)(s:Str):Y2 l (d++[s])=Y2 l d++(Vb l s).filter (zW l):=by simp[Y2]
theorem Jq (l:List Var):∀ d:List Str,(Y2 l d).length<=d.length*8:=by
 intro d;unfold Y2;refine qrN (qrr _ _) ?_
 induction d with
 | nil=>simp
 | cons a r ih=>
  have:=Y5 l a;rw[qrm,qqY,qq5];omega
theorem VG (l:List Var)(names:List Str)(hl:l.length<=100000)(hns:names.length<=100000)(hs:∀ s∈names,s.length<=1000):PZ 278 [sV l,sS names] (.sl 1 ((Y2 l names).map qY) .none):=by
 refine Pure.k qg Tryz.func278 rfl (by kernel_rfl) ?_;have hfit:Fits l:=by unfold Fits;omega
 simp[-getElem?_pos];refine qv.listR names (fun d ev O=>ev 0=sV l/\ev 1=sS names/\ev 5=ye 1 qY 0 (Y2 l d)/\ev 6=I_ d.length/\∃ H,O=⟨H,zG [] (Y2 l d)⟩) ?_ ?_ ?_
 . exact⟨by simp,by simp,by simp[Y2],by simp,_,by simp[Y2];rfl⟩
 . rintro d s rest ev O R hR hd hx hlt ⟨h0,h1,h5,h6,H,rfl⟩;have hdw:=wq (n:=d.length) (by omega);have hv:=VY l s hfit (hs s (qqW hx));have hlen:=Jq l d;have hml:=Y5 l s;have hin:∀ i∈Vb l s,0<=i/\i<l.length:=fun i=>qeT
   have hsn:=qjL l d s;generalize Y2 l d=D at *;generalize Vb l s=M at *;simp[-getElem?_pos,h0,h1,h6,hlt,hx];refine qd.call hv (by simp) ?_;simp[-getElem?_pos];refine qv.listR M (fun e ev O=>ev 0=sV l/\ev 1=sS names/\ev 5=ye 1 qY 0 (D++e.filter (zW l))/\ev 6=I_ d.length/\ev 7=sN M/\ev 8=I_ e.length/\∃ H,O=⟨H,zG [] (D++e.filter (zW l))⟩) ?_ ?_ ?_
   . exact⟨by simp[h0],by simp[h1],by simp[h5],by simp[h6],by simp,by simp,_,by simp;rfl⟩
   . clear h0 h1 h5 h6;rintro e i rest2 ev O R2 hR2 he hxi hlti ⟨h0,h1,h5,h6,h7,h8,H2,rfl⟩;have hew:=wq (n:=e.length) (by omega);obtain⟨hi0,hi1⟩:=hin i (qqW hxi);obtain⟨n,rfl⟩:=qrj hi0;obtain⟨v,hvn⟩:∃ v,l[n]?=some v:=⟨l[n],qq6 (by omega)⟩;have hfl:(e.filter (zW l)).length<=e.length:=qrr _ _;have hfs:(e++[(n:Int)]).filter (zW l)=e.filter (zW l)++(if zW l n=true then [(n:Int)] else []):=by
      rw[qrI];congr 1;simp only[qsg,List.filter_nil]
     have hrn:zW l n=(v.mode != 0):=(by simp[zW,hvn]);have hRR:∀ ev O,(ev 0=sV l/\ev 1=sS names/\ev 5=ye 1 qY 0 (D++(e++[(n:Int)]).filter (zW l))/\ev 6=I_ d.length/\ev 7=sN M/\ev 8=I_ (e++[(n:Int)]).length/\∃ H,O=⟨H,zG [] (D++(e++[(n:Int)]).filter (zW l))⟩)->R2 ev O:=hR2;rw[hfs,<- qri]at hRR;have hQl:(D++e.filter (zW l)).length+1<=1073741824:=(by rw[qqY];omega);generalize D++e.filter (zW l)=Q at *;by_cases hm:v.mode=0
     . have hr0:zW l n=false:=(by rw[hrn,hm];rfl);rw[hr0]at hRR;simp[-getElem?_pos,h0,h7,h8,hlti,hxi,hvn,hm,hew];exact hRR _ _ ⟨by simp[h0],by simp[h1],by simp[h5],by simp[h6],by simp[h7],by simp,H2,by simp⟩
     . have hr0:zW l n=true:=(by rw[hrn];simp[hm]);rw[hr0]at hRR;have hX:=zq (D:=Dof Zp) (H:=H2) (sz:=1) (en:=qY) (T:=[]) (s:=Q) (m:=[(n:Int)]) (tok:=.tight) D28 rfl D3 rfl (by omega) rfl (by decide) (by simp only[qq8];omega) 1 (.inl rfl);simp only[qqZ,qq9,qY,qrt]at hX;simp[-getElem?_pos,h0,h5,h7,h8,hlti,hxi,hvn,hm,hew,hX];exact hRR _ _ ⟨by simp[h0],by simp[h1],by simp,by simp[h6],by simp[h7],by simp,H2,by simp⟩
   . clear h0 h1 h5 h6;rintro ev O ⟨h0,h1,h5,h6,h7,h8,H2,rfl⟩;simp[-getElem?_pos,h6,h7,h8,hdw];exact hR _ _ ⟨by simp[h0],by simp[h1],by rw[hsn];simp[h5],by simp,H2,by rw[hsn]⟩
 . rintro ev O ⟨h0,h1,h5,h6,H,rfl⟩;simp[-getElem?_pos,h1,h5,h6]
def stR (l:List Var)(S:List Signal):List Var:=if jO l S≠0 then [] else q6 l S
theorem qmb (l:List Var)(hl:l.length<=1000)(S:List Signal)(hS:Fits S)(hw:∀ v∈l,0<=v.width/\v.width<=8) :
 PZ 74 [.sl 4 (l.map qo) .none,.sl 2 (S.map qD) .none] (.tup [.sl 4 ((stR l S).map qo) .none,I_ (jO l S)]):=by
 refine Pure.kO ⟨true,[],[],[]⟩ true qg Tryz.func74 rfl (by kernel_rfl) ?_;have hO:stR l S=if jO l S≠0 then [] else q6 l S:=rfl
 have hr:jO l S=qh (stE l S) (List.range S.length):=rfl;generalize stR l S=O_ at hO;generalize jO l S=r at hr hO;have hn:zi 0 4 qo [] (.sl 0 [] .nil) ([]:List Var):=.inl ⟨rfl,rfl⟩;obtain⟨vv,b,H1,hY,ho,_,_,_⟩:=hn.appendK (P:=Zp) (G:=GG) (o:=⟨true,[],[],[]⟩) (T:=[]) (m:=l) (tok:=.none) D31 rfl D65 rfl (by omega) rfl (by decide) (fun x=>rfl) (by simp;omega);rw[qrh]at ho;simp[-getElem?_pos,hY];refine qv.listR S (fun d ev O=>ev 0=.sl 4 (l.map qo) .none/\ev 1=.sl 2 (S.map qD) .none/\ev 6=vv/\ev 7=I_ d.length/\(∃ H,O=⟨H,[]⟩/\zi b 4 qo H vv (d.foldl Q7 l))/\∀ k,k<d.length->stE l S k=0) ?_ ?_ ?_
 . exact⟨by simp,by simp,by simp,by simp,⟨H1,by simp,by simpa using ho⟩,by simp⟩
 . clear ho hY hn;rintro d s rest ev O Rl hRl hd hx hlt ⟨h0,h1,h6,h7,⟨H,rfl,ho⟩,hz⟩;have hdw:IntKind.i64.wrap ((d.length:Int)+1)=(d.length+1:Nat):=(by rw[wr (by unfold Fits at hS;omega) (by unfold Fits at hS;omega)];omega);have hbad:stE l S d.length≠0->r=stE l S d.length:=fun hn=>by
    rw[hr];refine ko (l:=List.range S.length) (i:=d.length) (by rw[qs7 hlt]) (fun k hk=>hz k ?_) hn;rw[qtW]at hk;have:=qrC.1 hk;omega
   have hst:stE l S d.length=(match l[(ka l s.name).toNat]? with
    | some v=>if ka l s.name<0\/v.mode≠0 then 7 else if (S.take d.length).any (fun x=>x.name==s.name)=true then 8 else if s.value<0\/2 ^ v.width.toNat<=s.value then 1 else 0
    | none=>7):=by unfold stE;simp only[hx];cases l[(ka l s.name).toNat]?<;>rfl
   have htk:S.take d.length=d:=(by rw[hd,qsF];rfl);have hfd:(d++[s]).foldl Q7 l=Q7 (d.foldl Q7 l) s:=(by simp);rw[htk]at hst;have hfi:PZ 139 [.sl 4 (l.map qo) .none,.str s.name] (I_ (ka l s.name)):=Wy GG l s.name (by unfold Fits;omega);have hnm:=qbj (Qj d l) s.name;have hWl:=vQ d l;have hat:=qbp d l (ka l s.name).toNat;have hsv:Q7 (d.foldl Q7 l) s=(match (d.foldl Q7 l)[(ka l s.name).toNat]? with
    | some v=>(d.foldl Q7 l).set (ka l s.name).toNat ⟨v.name,v.width,v.mode,s.value⟩
    | none=>d.foldl Q7 l):=by rw[<- hnm];rfl
   have hwd:∀ v,l[(ka l s.name).toNat]?=some v->0<=v.width/\v.width<=8:=fun v hv=>hw v (qqW hv)
   generalize d.foldl Q7 l=W at *;have hrng:=yn (p:=fun v:Var=>v.name==s.name) (l:=l) (i:=0) (qso 0);have hidx:qF (fun v:Var=>v.name==s.name) l 0=ka l s.name:=rfl;rw[hidx]at hrng;simp[-getElem?_pos,h0,h1,h7,hlt,hx];refine qd.call hfi (by simp) ?_;generalize ka l s.name=I at *;by_cases hI:I<0
   . have h7':stE l S d.length=7:=(by rw[hst];cases l[I.toNat]? with | none=>rfl | some v=>simp[hI]);have e7:=hbad (by rw[h7'];decide);rw[h7']at e7;subst e7;rw[if_pos (by decide)]at hO;subst hO;simp[-getElem?_pos,hI];exact Wz 4
   . have hI0:0<=I:=(by omega);obtain⟨k,rfl⟩:=qrj hI0;have hkl:k<l.length:=(by have:=(hrng hI0).2;omega);have hkL:(k:Int)<l.length:=(by omega);obtain⟨v,hvk⟩:∃ v,l[k]?=some v:=⟨_,qq6 hkl⟩;rw[qsr]at hat hst hsv hwd;rw[hvk]at hat;obtain⟨w,hwk,hve⟩:∃ w,W[k]?=some w/\(w.name=v.name/\w.width=v.width/\w.mode=v.mode):=by
      cases hw:W[k]? with
      | none=>rw[hw]at hat;cases hat
      | some w=>rw[hw]at hat;simp at hat;exact⟨w,rfl,hat⟩
     rw[hwk]at hsv;rw[hvk]at hst;simp only[hI,false_or]at hst;by_cases hm0:v.mode=0
     . simp only[hm0,ne_eq,not_true_eq_false,if_false]at hst;simp[-getElem?_pos,h0,hI,hvk,hm0];refine qv.listR d (fun e ev O=>ev 0=.sl 4 (l.map qo) .none/\ev 1=.sl 2 (S.map qD) .none/\ev 6=vv/\ev 7=I_ d.length/\ev 8=I_ k/\ev 9=I_ e.length/\(∃ H,O=⟨H,[]⟩/\zi b 4 qo H vv W)/\∀ z∈e,(z.name==s.name)=false) ?_ ?_ ?_
       . exact⟨h0,h1,h6,h7,by simp,by simp,⟨H,rfl,ho⟩,by simp⟩
       . clear h0 h1 h6 h7;rintro e z rest2 ev O R2 hR2 he hxz hlte ⟨h0,h1,h6,h7,h8,h9,⟨H2,rfl,ho2⟩,hz2⟩;have hew:IntKind.i64.wrap ((e.length:Int)+1)=(e.length+1:Nat):=(by rw[wr (by unfold Fits at hS;omega) (by unfold Fits at hS;omega)];omega);have hxS:S[e.length]?=some z:=(by rw[hd,qrc hlte];exact hxz);have hltS:e.length<S.length:=(by omega);by_cases hzn:z.name=s.name
         . have h7':stE l S d.length=8:=(by rw[hst,if_pos (qq2.2 ⟨z,qqW hxz,by simpa using hzn⟩)]);have e7:=hbad (by rw[h7'];decide);rw[h7']at e7;subst e7;rw[if_pos (by decide)]at hO;subst hO;simp[-getElem?_pos,h1,h7,h9,hlte,hxS,hx,hzn];exact Wz 4
         . have hzn':¬ (z.name==s.name)=true:=(by simpa using hzn);have hzb:(z.name==s.name)=false:=(by simpa using hzn);simp[-getElem?_pos,h1,h7,h9,hlte,hxS,hx,hzb,hew];exact hR2 _ _ ⟨h0,h1,h6,h7,h8,by simp,⟨H2,rfl,ho2⟩,zu hz2 hzb⟩
       . clear h0 h1 h6 h7;rintro ev O ⟨h0,h1,h6,h7,h8,h9,⟨H2,rfl,ho2⟩,hz2⟩;rw[if_neg (by rw[qsa,qrx];exact fun z hzm=>by simp[hz2 z hzm])]at hst;have hw8:=hwd v hvk;obtain⟨wn,hwn⟩:=qrj hw8.1;have hwn8:wn<=8:=(by omega);have hmin:min wn 64=wn:=(by omega);have hpw:(2:Int) ^ wn<=256:=by
          have:wn=0\/wn=1\/wn=2\/wn=3\/wn=4\/wn=5\/wn=6\/wn=7\/wn=8:=by omega
          rcases this with rfl|rfl|rfl|rfl|rfl|rfl|rfl|rfl|rfl<;>decide
         have hpp:(0:Int)<2 ^ wn:=qtg (by omega);have hww:IntKind.i64.wrap (2 ^ wn)=2 ^ wn:=wr (by omega) (by omega);have hb64:IntKind.i64.bits=64:=rfl;have hwn0:¬ (wn:Int)<0:=(by omega);rw[hwn,qsr]at hst;by_cases hv0:s.value<0
         . have h7':stE l S d.length=1:=(by rw[hst,if_pos (.inl hv0)]);have e7:=hbad (by rw[h7'];decide);rw[h7']at e7;subst e7;rw[if_pos (by decide)]at hO;subst hO;simp[-getElem?_pos,h1,h7,h9,hx,hv0];exact Wz 4
         . by_cases hv1:(2:Int) ^ wn<=s.value
           . have h7':stE l S d.length=1:=(by rw[hst,if_pos (.inr hv1)]);have e7:=hbad (by rw[h7'];decide);rw[h7']at e7;subst e7;rw[if_pos (by decide)]at hO;subst hO;simp[-getElem?_pos,h0,h1,h7,h8,h9,hx,hvk,hwn,hv0,hv1,qiw,hmin,hww,hb64,hwn0];exact Wz 4
           . have h00:stE l S d.length=0:=(by rw[hst,if_neg (fun e=>e.elim hv0 hv1)]);have hWne:W≠[]:=(by rintro rfl;simp at hwk);obtain⟨rfl,hrow⟩:=ho2.at hWne;have hkW:(k:Int)<W.length:=(by omega);have hcl:=Go.Abs.flat_len (en:=qo) (sz:=4) (fun x=>rfl) W;have hsf:=KB s.value W k w hwk;have l3:k*4+3+1<=(W.flatMap qo).length:=(by omega);simp only at hsv;have hblt:=(qqV.1 hrow).1;have ho5:zi b 4 qo (H2.set b (.cells ((W.set k ⟨w.name,w.width,w.mode,s.value⟩).flatMap qo))) (.ms b 0 W.length 4) (W.set k ⟨w.name,w.width,w.mode,s.value⟩):=.inr ⟨by simp[hWne],by simp,by rw[qq4 hblt]⟩;rw[<- hsv,<- hfd]at ho5;rw[hsv]at hfd;generalize hcs:W.flatMap qo=cs at hrow hcl hsf l3;simp[-getElem?_pos,h0,h1,h6,h7,h8,h9,hx,hvk,hwn,hv0,hv1,qiw,hmin,hww,hb64,hwn0,hkW,hrow,l3,hsf,hdw];refine hRl _ _ ⟨h0,h1,h6,by simp,⟨_,rfl,?_⟩,fun q hq=>?_⟩
             . rw[hfd]at ho5 ⊢;exact ho5
             . have hq':q<d.length\/q=d.length:=(by simp at hq;omega);rcases hq' with hq' | rfl
               . exact hz q hq'
               . exact h00
     . have h7':stE l S d.length=7:=(by rw[hst,if_pos hm0]);have e7:=hbad (by rw[h7'];decide);rw[h7']at e7;subst e7;rw[if_pos (by decide)]at hO;subst hO;simp[-getElem?_pos,h0,hI,hvk,hm0];exact Wz 4
 . rintro ev O ⟨h0,h1,h6,h7,⟨H,rfl,ho⟩,hz⟩;have e0:r=0:=(by rw[hr];exact qr.2 fun k hk=>hz k (qrC.1 hk));subst e0;rw[if_neg (by simp)]at hO;have hOv:O_=S.foldl Q7 l:=hO;rw[<- hOv]at ho;simp[-getElem?_pos,h1,h6,h7];exact qbu (ho.frzNo (fun x=>rfl) (fun x=>by simp) (fun x=>by simp) 6) (ho.frz (fun x=>rfl) (fun x=>by simp) (fun x=>by simp) 6)
def onL (off:List Str)(d:List Blc):List (List It):=(d.filter (onB off)).map Blc.items
theorem qmX (off:List Str)(d:List Blc)(b:Blc):onL off (d++[b])=onL off d++(if off.contains b.name=true then [] else [b.items]):=by
 unfold onL;rw[qrI,qrf];congr 1;cases h:off.contains b.name
 . rw[qsg,if_pos (by unfold onB;rw[h];rfl)];rfl
 . rw[qsg,if_neg (by unfold onB;rw[h];simp)];rfl
theorem qfk {F:yB}:∀ {ls:List (List It)},(∀ l∈ls,qU F l=0)->(qi F ls).length<=ls.length*400
 | [],_=>by simp[qi]
 | l::r,h=>by
  have h1:=qfk (ls:=r) fun x hx=>h x (by simp[hx])
  have h2:=(yX (h l (by simp))).1;unfold qi at *;rw[qrm,qqY,qq5];omega
theorem qdN (F:yB)(l:List It):jJ F l≠0->qU F l=jJ F l:=fun h=>by
 unfold qU;rw[if_pos h]
noncomputable def qcS (c:Cls)(off:List Str)(more:List It):List It:=if qh (qU (qc c)) (zr c off more)≠0 then [] else qi (qc c) (zr c off more)
theorem qqf (c:Cls)(hc:ClsOk c)(off:List Str)(ho:Fits off)(more:List It)(hfew:∀ l∈zr c off more,Few l/\∀ x∈l,jG x<=90000) :
 PZ 73 [.agg (qn c),sS off,sI more] (.tup [.sl 12 ((qcS c off more).map qK) .none,I_ (qh (qU (qc c)) (zr c off more))]):=by
 refine Pure.k qg Tryz.func73 rfl (by kernel_rfl) ?_;have hcf:Fits c.fields:=by have:=hc.nf;unfold Fits;omega
 have hfs:∀ a n,qc c a=some n->0<=n/\n<=8:=fun a n hF=>by
  obtain⟨f,hf,_,rfl⟩:=kF hF;have:=zk (hc.fields f hf);exact⟨this.s0,this.s8⟩
 have h8:∀ s,(qc c s).getD 0<=8:=fun s=>by
  cases hF:qc c s with
  | none=>simp
  | some n=>have:=hfs s n hF;simp;omega
 have hp:∀ a n,qc c a=some n->0<=n:=fun a n h=>(hfs a n h).1
 have hck:∀ l∈zr c off more,PZ 137 [sI l,.agg (qn c)] (I_ (jJ (qc c) l)):=fun l hl=>qcw l c (hfew l hl).1 (hfew l hl).2 hcf hp
 have hex:∀ l∈zr c off more,PZ 138 [sI l,.agg (qn c)] (.tup [.sl 12 ((kH (qc c) l).map qK) .none,I_ (qU (qc c) l)]):=fun l hl=>qhF l c (hfew l hl).1 (hfew l hl).2 hcf h8 hp
 have hO:qcS c off more=if qh (qU (qc c)) (zr c off more)≠0 then [] else qi (qc c) (zr c off more):=rfl
 have hls:zr c off more=onL off c.blocks++[more]:=rfl;have hnb:=hc.nb;generalize qcS c off more=O_ at hO;generalize hrr:qh (qU (qc c)) (zr c off more)=r at hO;rw[hls]at hrr hO hck hex;clear hfew hls;generalize qc c=F at *;have hbm:∀ b∈c.blocks,off.contains b.name=false->b.items∈onL off c.blocks++[more]:=fun b hb hn=>qrD _ (qq3.2 ⟨b,qrz.2 ⟨hb,by simp only[onB,hn];rfl⟩,rfl⟩)
 simp only[qn]at hck hex;simp[-getElem?_pos];refine qv.listR c.blocks (fun d ev O=>ev 1=sS off/\ev 2=sI more/\ev 3=.ptr 0 0/\ev 8=ye 12 qK 0 (qi F (onL off d))/\ev 9=I_ d.length/\(∃ H,O=⟨H,zG [] (qi F (onL off d))⟩/\H[0]?=some (.cells (qn c)))/\∀ l∈onL off d,qU F l=0) ?_ ?_ ?_
 . exact⟨by simp,by simp,by simp,by simp[onL,qi],by simp,⟨_,by simp[onL,qi];rfl,by simp⟩,by simp[onL]⟩
 . rintro d b rest ev O R hR hd hx hlt ⟨h1,h2,h3,h8',h9,⟨H,rfl,b0⟩,hz⟩;have hdw:=wq (n:=d.length) (by omega);have hb:=qqW hx;have hh:=has136 off b.name ho;have hsn:=qmX off d b;have hln:=qfk hz;have hol:(onL off d).length<=d.length:=(by unfold onL;rw[qrv];exact qrr _ _);simp only[qn]at b0
   cases hc1:off.contains b.name with
   | true=>
    rw[hc1]at hh;rw[hc1,if_pos rfl,qrl]at hsn;simp[-getElem?_pos,h1,h3,h9,hlt,hx,b0];refine qd.call hh (by simp) ?_;simp[-getElem?_pos,h9,hdw];exact hR _ _ ⟨h1,h2,h3,by rw[hsn];simp[h8'],by simp,⟨H,by rw[hsn],by simp only[qn];exact b0⟩,by rw[hsn];exact hz⟩
   | false=>
    rw[hc1]at hh;rw[hc1,if_neg (by simp)]at hsn;have hm:=hbm b hb hc1;have hck1:=hck b.items hm;have hex1:=hex b.items hm;have hce:=qdN F b.items;have hrx:qU F b.items≠0->r=qU F b.items:=fun hne=>by
     rw[<- hrr];have hsp:onL off c.blocks=onL off d++b.items::onL off rest:=by
      rw[hd];unfold onL;rw[qrI,qrf,qsg,if_pos (by simp only[onB,hc1];rfl),qqZ]
     rw[hsp,qri];exact ja hz hne
    by_cases k0:jJ F b.items=0
    . rw[k0]at hck1;by_cases e0:qU F b.items=0
      . obtain⟨x1,x2,_⟩:=yX e0;rw[e0,x2]at hex1;have hes:qi F (onL off (d++[b]))=qi F (onL off d)++qQ F 6 none b.items:=(by rw[hsn];simp[qi]);have hX:=zq (D:=Dof Zp) (H:=H) (sz:=12) (en:=qK) (T:=[]) (s:=qi F (onL off d)) (m:=qQ F 6 none b.items) (tok:=.none) D24 rfl D68 rfl (by omega) rfl (by decide) (by omega) 12 (.inl rfl);simp only[qrt]at hX;generalize qQ F 6 none b.items=X at *;generalize qi F (onL off d)=Y at *;simp[-getElem?_pos,h1,h3,h9,hlt,hx,b0];refine qd.call hh (by simp) ?_;simp[-getElem?_pos,h3,h9,hx,b0];refine qd.call hck1 (by simp) ?_;simp[-getElem?_pos,h3,h9,hx,b0];refine qd.call hex1 (by simp) ?_;simp[-getElem?_pos,h8',h9,hX,hdw];exact hR _ _ ⟨h1,h2,h3,by rw[hes];simp,by simp,⟨H,by rw[hes],by simp only[qn];exact b0⟩,by
         rw[hsn];intro l hl;rcases qre.1 hl with hl|hl
         . exact hz l hl
         . simp at hl;subst hl;exact e0⟩
      . have hr:=hrx e0;rw[if_pos (by rw[hr];exact e0)]at hO;have hS:kH F b.items=[]:=(by unfold kH;rw[if_pos e0]);rw[hS,<- hr]at hex1;rw[<- hr]at e0;subst hO;simp[-getElem?_pos,h1,h3,h9,hlt,hx,b0];refine qd.call hh (by simp) ?_;simp[-getElem?_pos,h3,h9,hx,b0];refine qd.call hck1 (by simp) ?_;simp[-getElem?_pos,h3,h9,hx,b0];refine qd.call hex1 (by simp) ?_;simp[-getElem?_pos,h8',e0]
    . have hr:=hrx (by rw[hce k0];exact k0);rw[hce k0]at hr;rw[if_pos (by rw[hr];exact k0)]at hO;rw[<- hr]at hck1 k0;subst hO;simp[-getElem?_pos,h1,h3,h9,hlt,hx,b0];refine qd.call hh (by simp) ?_;simp[-getElem?_pos,h3,h9,hx,b0];refine qd.call hck1 (by simp) ?_;simp[-getElem?_pos,h3,h9,hx,b0,k0]
 . rintro ev O ⟨h1,h2,h3,h8',h9,⟨H,rfl,b0⟩,hz⟩;simp only[qn]at b0;have hm:more∈onL off c.blocks++[more]:=(by simp);have hck1:=hck more hm;have hex1:=hex more hm;have hce:=qdN F more;have hre:r=qU F more:=by
    rw[<- hrr,qT,if_pos (qr.2 hz)];simp only[qh];split
    . rename_i h;exact h.symm
    . rfl
   have hln:=qfk hz;have hol:(onL off c.blocks).length<=c.blocks.length:=(by unfold onL;rw[qrv];exact qrr _ _);by_cases k0:jJ F more=0
   . rw[k0]at hck1;by_cases e0:qU F more=0
     . obtain⟨x1,x2,_⟩:=yX e0;rw[e0,x2]at hex1;have hr0:r=0:=(by rw[hre,e0]);subst hr0;rw[if_neg (by simp)]at hO;have hes:qi F (onL off c.blocks++[more])=qi F (onL off c.blocks)++qQ F 6 none more:=(by simp[qi]);rw[hes]at hO;have hX:=zq (D:=Dof Zp) (H:=H) (sz:=12) (en:=qK) (T:=[]) (s:=qi F (onL off c.blocks)) (m:=qQ F 6 none more) (tok:=.none) D24 rfl D68 rfl (by omega) rfl (by decide) (by omega) 12 (.inl rfl);simp only[qrt]at hX;generalize qQ F 6 none more=X at *;generalize qi F (onL off c.blocks)=Y at *;subst hO;simp[-getElem?_pos,h2,h3,h9,b0];refine qd.call hck1 (by simp) ?_;simp[-getElem?_pos,h2,h3,b0];refine qd.call hex1 (by simp) ?_;simp[-getElem?_pos,h8',hX];rw[<- qrf];exact Qh
     . rw[<- hre]at e0;rw[if_pos e0]at hO;have hS:kH F more=[]:=(by unfold kH;rw[if_pos (by rw[<- hre];exact e0)]);rw[hS,<- hre]at hex1;subst hO;simp[-getElem?_pos,h2,h3,h9,b0];refine qd.call hck1 (by simp) ?_;simp[-getElem?_pos,h2,h3,b0];refine qd.call hex1 (by simp) ?_;simp[-getElem?_pos,h8',e0]
   . rw[hce k0]at hre;rw[<- hre]at hck1 k0;rw[if_pos k0]at hO;subst hO;simp[-getElem?_pos,h2,h3,h9,b0];refine qd.call hck1 (by simp) ?_;simp[-getElem?_pos,h2,h3,b0,k0]
theorem qjx (a:Str)(ha:a.length<=1000):∀ k:Nat,k<8->PZ 330 [.str a,I_ (k+1:Nat)] (.agg (qz (JU a k)))
 | 0,_=>by
  refine Pure.k qg Tryz.func330 rfl (by kernel_rfl) ?_;have h:=Jo a 0 (by omega) ha;simp only[JU,qa (jS a 0)]at h ⊢;simp;refine qd.call (by simpa using h) (by simp) ?_;simp
 | k+1,hk=>by
  have ih:=qjx a ha k (by omega);refine Pure.k qg Tryz.func330 rfl (by kernel_rfl) ?_;have h:=Jo a (k+1) hk ha;have hn:=qeQ 7 (JU a k) (jS a (k+1));have h1:¬ ((k:Int)+1+1=1):=by omega
  have h1n:¬ ((k+1+1:Nat):Int)=1:=by omega
  have hw:IntKind.i64.wrap (((k+1+1:Nat):Int)-1)=(k+1:Nat):=by rw[wr (by omega) (by omega)];omega
  have hs:JU a (k+1)=.mk 7 0 [] [JU a k,jS a (k+1)]:=rfl;rw[hs];generalize JU a k=A at *;generalize jS a (k+1)=B at *;simp only[qa (Ex.mk 7 0 [] [A,B]),Ex.op_mk,Ex.n_mk,Ex.name_mk,Ex.args_mk,qqZ,qq9]at hn ⊢;simp only[qa A,qa B]at hn ih h ⊢;simp[-Int.natCast_add,h1n,hw];refine qd.call ih (by simp) ?_;simp[-Int.natCast_add,hw];refine qd.call h (by simp) ?_;simp;refine qd.call hn (by simp) ?_;simp
def qgb:List (Nat×Sch×List Nat):=[(3,.step 0 [15,14,13,12,6,3] (.step 1 [15,14,13,12,6,3,2] (.step 2 [15,14,13,12,6,3] (.step 3 [15,14,13,12,6] (.step 4 [15,14,13,12,6] (.step 5 [15,14,13,12,6] (.step 6 [15,14,13,12] (.step 7 [15,14,13,12] (.step 8 [15,14,13,12] (.step 9 [15,14,13,12] (.step 10 [15,14,13,12,11] (.step 11 [15,14,13,12] (.step 12 [15,14,13] (.step 13 [15,14] (.step 14 [15] (.step 15 [] (.done)))))))))))))))),[])]
theorem qdM (a:Str)(ha:a.length<=1000)(n:Nat)(hn8:n<=8)(idx:Ex):∀ j:Nat,j<=n->PZ 332 [.str a,I_ n,.agg (qz idx),I_ (n-j:Nat)] (.agg (qz (Y7 a idx n j)))
 | 0,_=>by
  refine Pure.kO ⟨false,qgb,[],[]⟩ false qg Tryz.func332 rfl (by kernel_rfl) ?_;have h:=Kc 0;simp only[Y7,qa (zI 0),qa idx,qt6]at h ⊢;simp;refine qd.call h (by simp) ?_;simp
 | j+1,hj=>by
  have ih:=qdM a ha n hn8 idx j (by omega);refine Pure.kO ⟨false,qgb,[],[]⟩ false qg Tryz.func332 rfl (by kernel_rfl) ?_;have hk:n-(j+1)=n-1-j:=by omega
  have hkn:¬ ((n-(j+1):Nat):Int)=n:=by omega
  have hw:IntKind.i64.wrap (((n-(j+1):Nat):Int)+1)=(n-j:Nat):=by rw[wr (by omega) (by omega)];omega
  have h:=Jo a (n-(j+1)) (by omega) ha;have hc:=Kc ((n-(j+1):Nat):Int);have hn:=qeQ 15 idx (zI ((n-(j+1):Nat):Int));have hs:Y7 a idx n (j+1)=.mk 22 0 [] [.mk 15 0 [] [idx,zI ((n-(j+1):Nat):Int)],jS a (n-(j+1)),Y7 a idx n j]:=by rw[hk];rfl
  rw[hs];generalize Y7 a idx n j=Y at *;generalize jS a (n-(j+1))=I at *;generalize (n-(j+1):Nat)=k at *;generalize (n-j:Nat)=k2 at *;generalize zI (k:Int)=C at *;simp only[qa (Ex.mk 15 0 [] [idx,C]),Ex.op_mk,Ex.n_mk,Ex.name_mk,Ex.args_mk,qqZ,qq9]at hn;simp only[qa (Ex.mk 22 0 [] _),qa (Ex.mk 15 0 [] [idx,C]),Ex.op_mk,Ex.n_mk,Ex.name_mk,Ex.args_mk,qqZ,qq9];simp only[qa idx,qa C,qa I,qa Y]at *;simp[-Int.natCast_add,hkn];rw[zJ rfl];simp[-Int.natCast_add,zR];refine qd.call hc (by simp) ?_;simp[-Int.natCast_add,zR];refine qd.call hn (by simp) ?_;simp[-Int.natCast_add,zR];refine qd.call h (by simp) ?_;simp[-Int.natCast_add,zR,hw];refine qd.call ih (by simp) ?_;simp[-Int.natCast_add,zR]
  try simp[Leq,zt,yL]
def qmA:List (Nat×Sch×List Nat):=[(8,.step 0 [12,11,10,1] (.step 1 [12,11,10] (.step 2 [12,11,10,9,8,6,5,3] (.step 3 [12,11,10,9,8,6,5] (.step 4 [12,11,10,9,8,6,5] (.step 5 [12,11,10,9,8,6] (.step 6 [12,11,10,9,8] (.step 7 [12,11,10,9,8] (.step 8 [12,11,10,9] (.step 9 [12,11,10] (.step 10 [12,11] (.step 11 [12] (.step 12 [] (.done))))))))))))),[])]
theorem qhC (c:Cls)(hc:ClsOk c):∀ e,za e->Ko (qf c) e=false->PZ 281 [.agg (qz e),.agg (qn c)] (.agg (qz (scE (qf c) e))):=by
 refine Ex.ind fun e ih hn hu=>?_
 refine Pure.kO ⟨false,qmA,[],[]⟩ false qg Tryz.func281 rfl (by kernel_rfl) ?_;have hnl:=qa2 hn;have h33:=W5 hn;have h8:=jy (qf c) e.name;have hcf:Fits c.fields:=by have:=hc.nf;unfold Fits;omega
 have hfi:=vJ c e.name hcf;have hsz:e.op=3\/e.op=24->(qc c e.name).getD 0=(qA (qf c) e.name:Int):=fun h=>Jh hc ((zy hn.self).2.2.2.2.2.2.1 h)
 generalize (qc c e.name).isSome=sm at hfi;simp only[qn]at hfi ih ⊢;by_cases c24:e.op=24
 . have hs:=jV (jU hu) (.inr c24);have x:scE (qf c) e=JU e.name (qA (qf c) e.name-1):=(by rw[yT,if_pos c24]);rw[x];rw[hsz (.inr c24)]at hfi;have hsu:=qjx e.name hnl (qA (qf c) e.name-1) (by omega);rw[show qA (qf c) e.name-1+1=qA (qf c) e.name by omega]at hsu;generalize qA (qf c) e.name=n at *;generalize JU e.name (n-1)=S at *;simp only[qa S]at hsu ⊢;simp only[qa e];simp[c24];refine qd.call hfi (by simp) ?_;simp;refine qd.call hsu (by simp) ?_;simp
 have hsl:∀ a∈e.args,vG (scE (qf c) a):=fun a ha=>JW (qf c) a (hn.arg ha)
 have hco:∀ a∈e.args,(scE (qf c) a).op=1->0<=(scE (qf c) a).n:=fun a ha=>qfZ (hn.arg ha) (zj hu ha)
 generalize hN:(qc c e.name).getD 0=N at hfi hsz;simp only[qa e];simp;refine qd.call hfi (by simp) ?_;simp[c24];refine qv.listR e.args (fun d ev O=>ev 2=.ptr 0 0/\ev 3=.ptr 1 0/\ev 4=.ptr 2 0/\ev 5=I_ N/\ev 7=.ptr 3 0/\ev 8=I_ d.length/\∃ t,O=⟨.cells [I_ e.op,I_ e.n,.str e.name,sE e.args]::.cells [.str c.name,.str c.parent,sF c.fields,sB c.blocks]::.cells [I_ 0,I_ 0,.str [],.sl 0 [] .nil]::.cells [I_ e.op,I_ e.n,.str e.name,ye 4 qz 0 (d.map (scE (qf c)))]::t,zG [] (d.map (scE (qf c)))⟩) ?_ ?_ ?_
 . exact⟨by simp,by simp,by simp,by simp,by simp,by simp,[],by simp⟩
 . rintro d a rest ev O R hR hd hx hlt ⟨h2,h3,h4,h5,h7,h8',t,rfl⟩;have ham:=qqW hx;have hdw:=wq (n:=d.length) (by omega);have hi:=ih a ham (hn.arg ham) (zj hu ham);have happ:∀ H,qt (Dof Zp) ⟨H,zG [] (d.map (scE (qf c)))⟩ 32 (ye 4 qz 0 (d.map (scE (qf c)))) (.sl 4 [qz (scE (qf c) a)] .tight)=some (ye 4 qz 0 (d.map (scE (qf c))++[scE (qf c) a]),⟨H,zG [] (d.map (scE (qf c))++[scE (qf c) a])⟩):=fun H=>
    zq (sz:=4) (T:=[]) (m:=[scE (qf c) a]) D32 rfl D55 rfl (by omega) rfl (by decide) (by simp;omega) 4 (.inl rfl)
   simp only[qa a,qa (scE (qf c) a)]at hi happ;have hR':∀ ev',(ev' 2=.ptr 0 0/\ev' 3=.ptr 1 0/\ev' 4=.ptr 2 0/\ev' 5=I_ N/\ev' 7=.ptr 3 0/\ev' 8=I_ (d.length+1:Nat))->R ev' ⟨.cells [I_ e.op,I_ e.n,.str e.name,sE e.args]::.cells [.str c.name,.str c.parent,sF c.fields,sB c.blocks]::.cells [I_ 0,I_ 0,.str [],.sl 0 [] .nil]::.cells [I_ e.op,I_ e.n,.str e.name,ye 4 qz 0 (d.map (scE (qf c))++[scE (qf c) a])]::t,zG [] (d.map (scE (qf c))++[scE (qf c) a])⟩:=fun ev' hh=>by
    obtain⟨a1,a2,a3,a4,a5,a6⟩:=hh;exact hR _ _ ⟨a1,a2,a3,a4,a5,by rw[a6];simp,t,by simp⟩
   generalize d.map (scE (qf c))=D at *;generalize scE (qf c) a=A at *;simp[h2,h8',hlt];rw[zJ rfl];simp[zR,h2,h3,h7,h8',hx,qa a];refine qd.call hi (by simp) ?_;simp[zR,h7,h8',happ,hdw];exact hR' _ ⟨h2,h3,h4,h5,h7,by simp⟩
 . rintro ev O ⟨h2,h3,h4,h5,h7,h8',t,rfl⟩;by_cases c3:e.op=3
   . obtain⟨a,ha⟩:=YV hn c3;have x:scE (qf c) e=jN e.name (scE (qf c) a) (qA (qf c) e.name):=(by rw[yT,if_neg c24,if_pos c3,ha];rfl);have hsz:=hsz (.inl c3);have hco:=hco a (by rw[ha];simp);rw[x];rw[ha]at h8' ⊢;simp only[qqZ,qq9];generalize scE (qf c) a=A at *;generalize qA (qf c) e.name=n at *;subst hsz;have hoc:ye 4 qz 0 [A]=.sl 4 [qz A] (.chain 0 1):=rfl;rw[hoc];unfold jN;by_cases k1:A.op=1
     . rw[if_pos k1];have h0:=hco k1;by_cases kn:A.n<n
       . rw[if_pos kn];have hel:=Jo e.name A.n.toNat (by omega) hnl;have hcast:((A.n.toNat:Nat):Int)=A.n:=(by omega);rw[hcast]at hel;generalize jS e.name A.n.toNat=I at *;simp only[qa I]at hel ⊢;simp[h2,h5,h7,h8',c3,qa A,k1,kn];refine qd.call hel (by simp) ?_;simp[h4]
       . rw[if_neg kn];have hc0:=Kc 0;simp only[qa (zI 0)]at hc0 ⊢;simp[h2,h5,h7,h8',c3,qa A,k1,kn];refine qd.call hc0 (by simp) ?_;simp[h4]
     . rw[if_neg k1];have hch:=qdM e.name hnl n h8 A n (qrn _);rw[qsP]at hch;generalize Y7 e.name A n n=Y at *;simp only[qa Y,qa A]at hch ⊢;simp[h2,h5,h7,h8',c3,k1];refine qd.call (by simpa using hch) (by simp) ?_;simp[h4]
   . have x:scE (qf c) e=.mk e.op e.n e.name (e.args.map (scE (qf c))):=(by rw[yT,if_neg c24,if_neg c3]);rw[x];have q:=Qh (sz:=4) (en:=qz) (s:=e.args.map (scE (qf c)));generalize e.args.map (scE (qf c))=R at *;simp only[qa (Ex.mk _ _ _ _),Ex.op_mk,Ex.n_mk,Ex.name_mk,Ex.args_mk];simp[h2,h4,h7,h8',c3]
     try exact q
section
attribute [local simp] acells fin zh ze pl1 plain pl2 AV.atom
def yd (s:Int):List Int->Int
 | []=>s
 | x::r=>if s<100000 then yd (s+x) r else s
def qc2:List Ex->Int
 | []=>0
 | a::_=>a.op
def qan (s:Int):Int:=if 100000<s then 100000 else s
def qjr (l:List Var)(op:Int)(s:Str)(ho:Int)(xs:List Int):Int :=
 if op=24 then 2*(qA l s:Int)-1
 else if op=3/\ho=1 then 1
 else if op=3 then qan ((qA l s:Int)*(yd 0 xs+4)+1)
 else qan (yd 0 xs+1)
mutual
def jt (l:List Var):Ex->Int
 | .mk op _ s args=>qjr l op s (qc2 args) (qjs l args)
def qjs (l:List Var):List Ex->List Int
 | []=>[]
 | e::r=>jt l e::qjs l r
end
@[simp]theorem qmk (l:List Var):∀ x,qjs l x=x.map (jt l)
 | []=>by simp[qjs]
 | e::r=>by simp[qjs,qmk l r]
theorem Qe (l:List Var)(e:Ex):jt l e=qjr l e.op e.name (qc2 e.args) (e.args.map (jt l)):=by cases e;simp[jt]
theorem wJ:∀ {xs:List Int} {s:Int},0<=s->s<=200000->(∀ x∈xs,0<=x/\x<=100000)->0<=yd s xs/\yd s xs<=200000
 | [],s,h0,h1,_=>⟨h0,h1⟩
 | x::r,s,h0,h1,h=>by
  have hx:=h x (by simp);simp only[yd];split
  . exact wJ (by omega) (by omega) fun y hy=>h y (by simp[hy])
  . exact⟨h0,h1⟩
theorem qjf {xs:List Int}{s:Int}(h:¬ s<100000):yd s xs=s:=by
 cases xs with
 | nil=>rfl
 | cons x r=>simp only[yd,if_neg h]
theorem vI (l:List Var):∀ e,za e->Ko l e=false->0<=jt l e/\jt l e<=100000:=by
 refine Ex.ind fun e ih hn hu=>?_
 have hxs:∀ x∈e.args.map (jt l),0<=x/\x<=100000:=by
  intro x hx;obtain⟨a,ha,rfl⟩:=qq3.1 hx;exact ih a ha (hn.arg ha) (zj hu ha)
 have hs:=wJ (s:=0) (by omega) (by omega) hxs;have h8:=jy l e.name;rw[Qe];unfold qjr;split
 . have:=jV (jU hu) (.inr ‹_›);omega
 split
 . omega
 split
 . unfold qan;have hp:0<=(qA l e.name:Int)*(yd 0 (e.args.map (jt l))+4):=qtt (by omega) (by omega);split<;>omega
 . unfold qan;split<;>omega
theorem qjg:∀ {xs:List Int} {s:Int},(∀ x∈xs,0<=x)->yd s xs<=s+xs.sum
 | [],s,_=>by simp[yd]
 | x::r,s,h=>by
  have hx:=h x (by simp);have hr:∀ y∈r,0<=y:=fun y hy=>h y (by simp[hy])
  have ih:=qjg (s:=s+x) hr;have hnn:0<=r.sum:=by
   clear ih h hx
   induction r with
   | nil=>simp
   | cons a q ihq=>simp only[qsK];have:=hr a (by simp);have:=ihq fun y hy=>hr y (by simp[hy]);omega
  simp only[yd,qsK];split<;>omega
theorem qds {l:List Var}{e:Ex}(hn:za e)(hu:Ko l e=false):0<=(zx l e).2\/(zx l e).2 = -1:=by
 rcases (WE l e hn hu).val with h|h
 . exact .inl h.1
 . exact .inr h.1
theorem qdt {l:List Var}{e:Ex}(hn:za e)(hu:Ko l e=false)(h:0<=(zx l e).2):jt l e<=1:=by
 rw[yq]at h;rw[Qe];unfold qbw at h;unfold qjr;by_cases c1:e.op=1
 . have ha:e.args=[]:=by
    obtain⟨_,_,_,_,k5,_⟩:=zy hn.self;have h:=jQ k5 (by omega);have h1:zN e.op=0:=(by rw[c1];decide);rw[h1]at h;exact qrQ.1 (by omega)
   rw[if_neg (by omega),if_neg (by omega),if_neg (by omega),ha];simp[yd,qan]
 rw[if_neg c1]at h;by_cases c24:e.op=24
 . rw[if_pos c24]at h;simp at h
 rw[if_neg c24]at h;by_cases c3:e.op=3
 . rw[if_neg (by simp[c3])]at h;obtain⟨a,ha⟩:=YV hn c3;have hs:=jV (jU hu) (.inl c3);rw[ha]at h ⊢;simp only[qqZ,qq9,We]at h;have hva:=qds (hn.arg (by rw[ha];simp):za a) (zj hu (by rw[ha];simp));by_cases hge:(qA l e.name:Int)<=(zx l a).2
   . have h1:1<=(zx l a).2:=(by omega);have ho:a.op=1:=by
      rw[yq]at h1;unfold qbw at h1;split at h1
      . assumption
      split at h1
      . simp at h1
      split at h1
      . simp at h1
      split at h1
      . simp at h1
      split at h1
      . simp at h1
      . simp at h1
     rw[if_neg (by omega),if_pos ⟨c3,ho⟩];omega
   . rw[if_neg hge]at h;split at h<;>simp at h
 . rw[if_pos c3]at h;simp at h
theorem qpv (l:List Var):∀ e,za e->Ko l e=false->(zx l e).1<=400->jt l e<=41*(zx l e).1:=by
 refine Ex.ind fun e ih hn hu h4=>?_
 have hok:=fun a (ha:a∈e.args)=>WE l a (hn.arg ha) (zj hu ha)
 have hnn:=(WE l e hn hu).nn;have hrr:∀ x∈e.args.map (jt l),0<=x:=by
  intro x hx;obtain⟨a,ha,rfl⟩:=qq3.1 hx;exact (vI l a (hn.arg ha) (zj hu ha)).1
 have hsw:=qjg (s:=0) hrr;have h8:=jy l e.name;by_cases c24:e.op=24
 . have x1:(zx l e).1=2*(qA l e.name:Int)-1:=(by rw[yq];unfold qbw;rw[if_neg (by omega),if_pos c24]);have x2:jt l e=2*(qA l e.name:Int)-1:=(by rw[Qe];unfold qjr;rw[if_pos c24]);omega
 by_cases c3:e.op=3
 . obtain⟨a,ha⟩:=YV hn c3;have ham:a∈e.args:=(by rw[ha];simp);have oa:=(hok a ham).nn;have hs:=jV (jU hu) (.inl c3);have x2:jt l e=if a.op=1 then 1 else qan ((qA l e.name:Int)*(yd 0 [jt l a]+4)+1):=by
    rw[Qe,ha];unfold qjr;rw[if_neg c24];simp only[qc2,qqZ,qq9,c3,true_and,if_true]
   have hsum:yd 0 [jt l a]=jt l a:=(by simp[yd]);rw[hsum]at x2;have hcap:∀ z:Int,qan z<=z:=fun z=>by unfold qan;split<;>omega
   by_cases ca:a.op=1
   . rw[if_pos ca]at x2;omega
   rw[if_neg ca]at x2;have hc:=hcap ((qA l e.name:Int)*(jt l a+4)+1);have x1:zx l e=if (qA l e.name:Int)<=(zx l a).2 then (1,0) else if 0<=(zx l a).2 then (1,-1) else
    (if 401<(qA l e.name:Int)*((zx l a).1+4)+1 then 401 else (qA l e.name:Int)*((zx l a).1+4)+1,-1):=by
    rw[yq,ha];unfold qbw;rw[if_neg (by omega),if_neg c24,if_neg (by simp[c3])];simp only[qqZ,qq9,We]
   have hdist:∀ z:Int,(qA l e.name:Int)*(z+4)=(qA l e.name:Int)*z+4*(qA l e.name:Int):=fun z=>by rw[Int.mul_add];omega
   by_cases hv:0<=(zx l a).2
   . have hr1:=qdt (hn.arg ham) (zj hu ham) hv;have hm:(qA l e.name:Int)*jt l a<=(qA l e.name:Int)*1:=qsm hr1 (by omega);rw[Int.mul_one]at hm;rw[hdist]at hc x2;omega
   . have hva:=qds (hn.arg ham) (zj hu ham);rw[if_neg (by omega),if_neg hv]at x1;have x1':(zx l e).1=if 401<(qA l e.name:Int)*((zx l a).1+4)+1 then 401 else (qA l e.name:Int)*((zx l a).1+4)+1:=by rw[x1]
     have hx:(zx l e).1=(qA l e.name:Int)*((zx l a).1+4)+1:=by
      rw[x1']at h4 ⊢;split
      . rename_i hh;rw[if_pos hh]at h4;omega
      . rfl
     have hge:(zx l a).1<=(qA l e.name:Int)*(zx l a).1:=by
      have:=qsV (show (1:Int)<=(qA l e.name:Int) by omega) (show 0<=(zx l a).1 by omega);omega
     rw[hdist]at hx;have ia:=ih a ham (hn.arg ham) (zj hu ham) (by omega);have hm:(qA l e.name:Int)*jt l a<=(qA l e.name:Int)*(41*(zx l a).1):=qsm ia (by omega);have hm2:(qA l e.name:Int)*(41*(zx l a).1)=41*((qA l e.name:Int)*(zx l a).1):=(by rw[Int.mul_left_comm]);rw[hdist]at hc x2;omega
 . have x2:jt l e=qan (yd 0 (e.args.map (jt l))+1):=by
    rw[Qe];unfold qjr;rw[if_neg c24,if_neg (by omega),if_neg c3]
   have hcap:∀ z:Int,qan z<=z:=fun z=>by unfold qan;split<;>omega
   have hc:=hcap (yd 0 (e.args.map (jt l))+1);by_cases c1:e.op=1
   . have x1:(zx l e).1=1:=(by rw[yq];unfold qbw;rw[if_pos c1]);have:=qdt hn hu (by rw[yq];unfold qbw;rw[if_pos c1];have:=((zy hn.self).2.2.1 c1).1;exact this);omega
   have hxs:∀ x∈e.args.map (zx l),0<=x.1:=by
    intro x hx;obtain⟨a,ha,rfl⟩:=qq3.1 hx;have:=(hok a ha).nn;omega
   have x1:(zx l e).1=Zm 1 (e.args.map (zx l)):=(by rw[yq];unfold qbw;rw[if_neg c1,if_neg c24,if_pos c3]);rw[x1]at h4 ⊢;have hcs:=qbG (s:=1) (by omega) hxs h4;have key:∀ l':List Ex,(∀ a∈l',a∈e.args)->YZ (l'.map (zx l))<=400->(l'.map (jt l)).sum<=41*YZ (l'.map (zx l)):=by
    intro l'
    induction l' with
    | nil=>intro _ _;simp[YZ]
    | cons a r ihr=>
     intro hm hle;have hna:∀ x∈r.map (zx l),0<=x.1:=by
      intro x hx;obtain⟨b,hb,rfl⟩:=qq3.1 hx;have:=(hok b (hm b (by simp[hb]))).nn;omega
     have hnn2:=Kt hna;have ha:=hm a (by simp);have hna2:=(hok a ha).nn;simp only[qqZ,YZ,qsK]at hle ⊢;have i1:=ih a ha (hn.arg ha) (zj hu ha) (by omega);have i2:=ihr (fun b hb=>hm b (by simp[hb])) (by omega);omega
   have:=key e.args (fun a h=>h) (by omega);omega
end
end Go.Proofs.YtpgcmnabljandaaGreatDoor
end
