/- A part of the proof. -/
import Derived.Test.YtpgcmnabljandaaGreatDoorPa43
import Derived.Test.YtpgcmnabljandaaGreatDoorPa44
import Derived.Test.YtpgcmnabljandaaGreatDoorPa33
set_option maxHeartbeats 16000000
set_option linter.unusedVariables false
set_option linter.unusedSimpArgs false
set_option maxRecDepth 100000
set_option linter.defProp false
section
namespace Go.Proofs.YtpgcmnabljandaaGreatDoor
open Go Go.Abs
theorem qeD (l:List Var)(a b c d:AV)(ha:AV.atom a=true)(hb:AV.atom b=true)(hc:AV.atom c=true)(hd:AV.atom d=true)(i:Int):PZ 83 [.agg [sV l,a,b,c,d],I_ i] (.bool (zW l i)):=by
 refine Pure.k qg Tryz.func83 rfl (by kernel_rfl) ?_;have hr:zW l i=(decide (0<=i)&&(l[i.toNat]?).any fun v=>v.mode != 0):=rfl;rw[hr];by_cases h0:0<=i
 . cases hv:l[i.toNat]? with
   | none=>
    have h1:¬ i<l.length:=(by simp at hv;omega);simp[-getElem?_pos,h0,h1,ha,hb,hc,hd]
   | some v=>
    obtain⟨hl,hv'⟩:=qqV.1 hv;have h1:i<l.length:=(by omega);simp[-getElem?_pos,h0,h1,hv,ha,hb,hc,hd]
 . simp[-getElem?_pos,h0,ha,hb,hc,hd]
theorem qpt (x d:Dist):PZ 111 [.agg (qG x),.rptr (qG d)] (.bool (x.var==d.var)):=by
 refine Pure.k qg Tryz.func111 rfl (by kernel_rfl) ?_;simp
theorem qps (l:List Var)(x:Dist)(z0 z1 z2 z3 b c d e:AV)(hb:AV.atom b=true)(hc:AV.atom c=true)(hd:AV.atom d=true)(he:AV.atom e=true)(hno:qu [b,c,d,e]=true):PZ 112 [.agg (qG x),.rptr [.rptr [z0,z1,z2,z3,sV l,b,c,d,e]]] (.bool (!zW l x.var)):=by
 refine Pure.k qg Tryz.func112 rfl (by kernel_rfl) ?_;simp only[qu,qsp,qq1]at hno;simp[-getElem?_pos];refine qd.call (qeD l b c d e hb hc hd he x.var) (by simp[hno]) ?_;simp[-getElem?_pos]
theorem qbA (V:List Var)(D:List Dist)(hD:D.length<=1000000)(H:List Blk)(T:List (Option Nat))(n B vb:Nat)(a0 a1 a2 a3 vv dv a9:AV)
 (hno:qu [a0,a1,a2,a3]=true) (hB:H[B]?=some (.cells [a0,a1,a2,a3,vv,.sl 0 [] .nil,.sl 0 [] .nil,dv,.sl 0 [] .nil,a9])) (hv:zi vb 4 qo H vv V) (hd:yc n 2 qG T dv D) :
 qq Zp GG 53 [.ptr B 0] ⟨H,T⟩ (fun r O'=>r=I_ (zl V D)/\∃ t,O'=⟨H++t,T⟩):=by
 refine qq.k qg Tryz.func53 rfl (by kernel_rfl) ?_;have hr:zl V D=if (List.range D.length).any (qk5 D)=true then 8 else if D.any (fun x=>!zW V x.var)=true then 1 else 0:=rfl
 generalize zl V D=r at hr;have hfz:=fun H=>hd.frz (fun x=>by simp) (fun x=>by simp) H 7
 obtain⟨sz,tok,rfl,hsz⟩:∃ sz tok,dv=.sl sz (D.map qG) tok/\(sz=2\/D=[]):=by
  rcases hd with ⟨rfl,rfl⟩|⟨_,t,_,rfl,_⟩
  . exact⟨0,.nil,rfl,.inr rfl⟩
  . exact⟨2,_,rfl,.inl rfl⟩
 have hvz:∀ H',(∀ (k:Nat) (x:Blk),H[k]?=some x->H'[k]?=some x)->Leq (frz H' 5 vv) (sV V):=fun H' hk=>(hv.keep fun x _ hx=>hk _ _ hx).frz (fun x=>by simp) (fun x=>by simp) (fun x=>by simp) 4
 simp[-getElem?_pos,qb hB];refine qv.listR D (fun d ev O=>ev 1=.ptr H.length 0/\ev 9=.sl sz (D.map qG) tok/\ev 10=I_ D.length/\ev 11=I_ d.length/\(∃ t,O=⟨H++.cells [.ptr B 0]::t,T⟩)/\∀ k,k<d.length->qk5 D k=false) ?_ ?_ ?_
 . exact⟨by simp,by simp,by simp,by simp,⟨[],by simp⟩,by simp⟩
 . rintro d x l ev O R hR hdl hx hlt ⟨h1,h9,h10,h11,⟨t,rfl⟩,hz⟩;have hs2:sz=2:=hsz.resolve_right (by rintro rfl;simp at hlt);subst hs2;have hdup:qk5 D d.length=d.any fun y=>y.var==x.var:=by
    unfold qk5;rw[hx];simp only;congr 1;rw[hdl,qsF];rfl
   have htk:D.take d.length=d:=(by rw[hdl,qsF];rfl);have hle:d.length<=D.length:=(by omega);simp[-getElem?_pos,h1,h9,h10,h11,hlt,hx,qb hB,jg,jp,Jb,hle];rw[<- List.map_take,htk];refine qd.lent (args':=[sD d,.fn 111 [] [.rptr (qG x)]]) (wu GG d (fun y=>y.var==x.var) 111 [] [.rptr (qG x)] (by unfold Fits;omega) rfl (by simp) fun y _=>qpt y x) rfl ?_ ?_
   . simp only[qqZ,qq9,zt,and_true];refine⟨qe5 (fun x=>by simp) (fun x=>by simp) _ 7 d _,?_⟩;simp[frz]
   . rw[<- hdup];cases hc:qk5 D d.length
     . simp[-getElem?_pos,h11];refine hR _ _ ⟨h1,h9,h10,by simp;exact wr (by omega) (by omega),⟨_,by simp;rfl⟩,fun k hk=>?_⟩;have hk':k<d.length\/k=d.length:=(by simp at hk;omega);rcases hk' with hk' | rfl
       . exact hz k hk'
       . exact hc
     . rw[if_pos (qq2.2 ⟨d.length,qrC.2 hlt,hc⟩)]at hr;subst hr;simp[-getElem?_pos]
 . rintro ev O ⟨h1,h9,h10,h11,⟨t,rfl⟩,hz⟩;have hnd:¬ (List.range D.length).any (qk5 D)=true:=by
    rw[qq2];rintro⟨k,hk,h⟩;rw[hz k (qrC.1 hk)]at h;cases h
   rw[if_neg hnd]at hr;simp[-getElem?_pos,h1,h10,h11,qb hB];have hB2:(H++.cells [.ptr B 0]::t)[B]?=some (.cells [a0,a1,a2,a3,vv,.sl 0 [] .nil,.sl 0 [] .nil,.sl sz (D.map qG) tok,.sl 0 [] .nil,a9]):=qb hB _;have hb2:(H++.cells [.ptr B 0]::t)[H.length]?=some (.cells [.ptr B 0]):=(by simp);have hvz2:=hvz (H++.cells [.ptr B 0]::t) fun k x hk=>qb hk _
   have hdz:=fun k=>qbn (sz:=sz) (sz':=2) (en:=qG) (fun x=>by simp) (fun x=>by simp) (H++.cells [.ptr B 0]::t) k D tok hsz
   have hxt:∃ t',H++.cells [.ptr B 0]::t=H++t':=⟨_,rfl⟩;generalize H++.cells [.ptr B 0]::t=H' at hB2 hb2 hvz2 hdz hxt ⊢;simp only[qu,qsp,qq1]at hno;refine qd.lent (args':=[sD D,.fn 112 [] [.rptr [.rptr [a0,a1,a2,a3,sV V,.sl 0 [] .nil,.sl 0 [] .nil,sD D,.sl 0 [] .nil]]]]) (wu GG D (fun x=>!zW V x.var) 112 [] _ (by unfold Fits;omega) rfl (by simp[hno]) fun y _=>qps V y _ _ _ _ _ _ _ _ (by simp) (by simp) (by simp) (by simp) (by simp)) rfl ?_ ?_
   . simp only[qqZ,qq9,zt,and_true];refine⟨hdz 7,?_⟩
     . have f1:frz H' 8 (.fn 112 [] [.ptr H.length 0])=.fn 112 [] [frz H' 7 (.ptr H.length 0)]:=(by rw[frz,if_neg (by simp[zg])];rfl);have f2:frz H' 7 (.ptr H.length 0)=.rptr [frz H' 6 (.ptr B 0)]:=(by rw[qbo hb2];rfl);have f3:frz H' 6 (.ptr B 0)=.rptr ([a0,a1,a2,a3,vv,.sl 0 [] .nil,.sl 0 [] .nil,.sl sz (D.map qG) tok,.sl 0 [] .nil,a9].map (frz H' 5)):=(by rw[qbo hB2];rfl);rw[f1,f2,f3];simp only[qqZ,qq9,Leq,zt,Kg,and_true,true_and];rw[qP hno.1,qP hno.2.1,qP hno.2.2.1,qP hno.2.2.2,qP (a:=.sl 0 [] .nil) rfl];exact⟨Leq.refl _,Leq.refl _,Leq.refl _,Leq.refl _,hvz2,Leq.refl _,Leq.refl _,hdz 4,Leq.refl _⟩
   . cases hc:D.any (fun x=>!zW V x.var)
     . rw[hc,if_neg (by simp)]at hr;subst hr;simp[-getElem?_pos];exact hxt
     . rw[hc,if_pos rfl]at hr;subst hr;simp[-getElem?_pos];exact hxt
section
attribute [local simp] acells fin zh ze pl1 plain pl2 AV.atom
structure BX (T0:List (Option Nat))(B vb m:Nat)(c:Cls)(V:List Var)(O:St)(D:List Dist)(E:List (Int×Int))(td:Nat)(R:List Rec)(clk:Nat):Prop where
 cell:∃ vv dv,O.H[B]?=some (.cells [.str c.name,.str c.parent,.sl 5 (c.fields.map q8) .none,.sl 2 (c.blocks.map qR) .none,vv,.sl 0 [] .nil,.sl 0 [] .nil,dv,.sl 0 [] .nil,.map m])/\zi vb 4 qo O.H vv V /\
  ((D=[]/\dv=.sl 0 [] .nil)\/(D≠[]/\dv=.sl 2 (D.map qG) (.chain td D.length)/\T0.length<=td/\O.T[td]?=some (some D.length)/\∀ r∈R,r.tok≠td))
 map:O.H[m]?=some (.map (R.map (vA E)) clk)
 after:AfterOk O.T T0.length E R clk
 pre:T0 <+: O.T
def Kp2 (B m:Nat)(H H':List Blk):Prop:=H.length<=H'.length/\∀ (k:Nat) (x:Blk),H[k]?=some x->k≠B->k≠m->H'[k]?=some x
theorem Kp2.app {B m:Nat}{H t:List Blk}:Kp2 B m H (H++t):=⟨by simp,fun k x hk _ _=>qb hk t⟩
section
variable {T0:List (Option Nat)}{B vb m:Nat}{c:Cls}{V:List Var}{O:St}{D:List Dist}{E:List (Int×Int)}{td:Nat}{R:List Rec}{clk:Nat}{H:List Blk}{T T':List (Option Nat)}
theorem BX.ne (h:BX T0 B vb m c V O D E td R clk):B≠m:=by
 rintro rfl;obtain⟨vv,dv,h1,_⟩:=h.cell;have h2:=h.map;rw[h1]at h2;cases h2
theorem BX.ext (h:BX T0 B vb m c V ⟨H,T⟩ D E td R clk)(t:List Blk)(hT:T <+: T'):BX T0 B vb m c V ⟨H++t,T'⟩ D E td R clk:=by
 obtain⟨vv,dv,h1,h2,h3⟩:=h.cell;refine⟨⟨vv,dv,qb h1 t,h2.keep fun x _ hx=>qb hx t,?_⟩,qb h.map t,h.after.ext hT,h.pre.trans hT⟩;rcases h3 with h3|⟨a,b,c,d,e⟩
 . exact .inl h3
 . obtain⟨u,rfl⟩:=hT;exact .inr ⟨a,b,c,by show (T++u)[td]?=_;rw[qrc (qqV.1 d).1];exact d,e⟩
theorem BX.dist (h:BX T0 B vb m c V ⟨H,T⟩ D E td R clk)(hD:D.length<=1000000)(d:Dist) :
 ∃ vv dv v' T' td',H[B]?=some (.cells [.str c.name,.str c.parent,.sl 5 (c.fields.map q8) .none,.sl 2 (c.blocks.map qR) .none,vv,.sl 0 [] .nil,.sl 0 [] .nil,dv,.sl 0 [] .nil,.map m]) /\
  (∀ H,qt (Dof Zp) ⟨H,T⟩ 33 dv (.sl 2 [qG d] .tight)=some (v',⟨H,T'⟩))/\acells v'=some [v'] /\
  BX T0 B vb m c V ⟨H.set B (.cells [.str c.name,.str c.parent,.sl 5 (c.fields.map q8) .none,.sl 2 (c.blocks.map qR) .none,vv,.sl 0 [] .nil,.sl 0 [] .nil,v',.sl 0 [] .nil,.map m]),T'⟩ (D++[d]) E td' R clk:=by
 obtain⟨vv,dv,h1,h2,h3⟩:=h.cell;simp only at h1 h2 h3;have hne:=h.ne;have hlt:=(qqV.1 h1).1;have hvB:V≠[]->vb≠B:=fun hV=>by
  have hr:=(h2.at hV).2;rintro rfl;rw[h1]at hr
  cases V with
  | nil=>exact hV rfl
  | cons v r=>
   simp only[Option.some.injEq,Blk.cells.injEq,qrm,qo,qrd,qrh,List.cons.injEq]at hr;have:=hr.2.1;cases this
 have hvars:∀ y,zi vb 4 qo (H.set B y) vv V:=fun y=>h2.keep fun x hl hx=>by rw[qqX (Ne.symm (hvB hl))];exact hx
 have hmap:∀ y,(H.set B y)[m]?=some (.map (R.map (vA E)) clk):=fun y=>by rw[qqX hne];exact h.map
 rcases h3 with ⟨rfl,rfl⟩|⟨hDn,rfl,ht1,ht2,ht3⟩
 . refine⟨vv,.sl 0 [] .nil,.sl 2 [qG d] (.chain T.length 1),T++[some 1],T.length,h1,fun H=>by simp[qt,zD],rfl,⟨vv,_,by rw[qq4 hlt],hvars _,.inr ⟨by simp,by simp,by obtain⟨u,hu⟩:=h.pre;simp only at hu;rw[<- hu];simp,by simp,fun r hr=>?_⟩⟩,hmap _,h.after.ext (qrY _ _),h.pre.trans (qrY _ _)⟩;have:=(qqV.1 (h.after.tok r hr).2).1;simp only at this;omega
 . have hl:D.length+1<=1073741824:=(by omega);refine⟨vv,_,.sl 2 ((D++[d]).map qG) (.chain td (D.length+1)),T.set td (some (D.length+1)),td,h1,fun H=>by simp[qt,zD,ht2,hl],rfl,⟨vv,_,by rw[qq4 hlt],hvars _,.inr ⟨by simp,by simp,ht1,?_,ht3⟩⟩,hmap _,h.after.keep fun r hr=>?_,Za h.pre ht1 _⟩
   . rw[qq4 (qqV.1 ht2).1];simp
   . rw[qqX (Ne.symm (ht3 r hr))]
theorem D86x:∃ x,Dof Zp 86=some x/\x.d=.map 3 28:=⟨_,D86,rfl⟩
theorem D3x:∃ x,Dof Zp 3=some x/\x.d=.int .i64/\x.size=1/\x.zero.length=1/\x.bytes<=65536:=⟨_,D3,rfl,rfl,rfl,by decide⟩
theorem D28x:∃ x,Dof Zp 28=some x/\x.d=.sl 3/\x.zv=.sl 0 [] .nil:=⟨_,D28,rfl,rfl⟩
theorem Ku (E:List (Int×Int))(i:Int):(kV E i).length<=E.length:=by
 unfold kV;rw[qrv];exact qrr _ _
theorem BX.edge (h:BX T0 B vb m c V ⟨H,T⟩ D E td R clk)(hE:E.length<=1000000000)(i k:Int) :
 ∃ v v' T' R' clk',(∀ H',H'[m]?=some (.map (R.map (vA E)) clk)->∀ T1,yj (Dof Zp) ⟨H',T1⟩ 86 (.map m) (.int .i64 i) false=some v) /\
  (∀ H',qt (Dof Zp) ⟨H',T⟩ 28 v (.sl 1 [[.int .i64 k]] .tight)=some (v',⟨H',T'⟩)) /\
  (∀ H',H'[m]?=some (.map (R.map (vA E)) clk)->∀ T1,zQ (Dof Zp) ⟨H',T1⟩ 86 (.map m) (.int .i64 i) v'=some ⟨H'.set m (.map (R'.map (vA (E++[(i,k)]))) clk'),T1⟩) /\
  BX T0 B vb m c V ⟨H.set m (.map (R'.map (vA (E++[(i,k)]))) clk'),T'⟩ D (E++[(i,k)]) td R' clk':=by
 obtain⟨v,v',T',R',clk',k1,k2,k3,k4,k5,k6,k7⟩:=h.after.add h.pre (fun i=>qrN (Ku E i) hE) i k D86x D3x D28x;have hne:=h.ne;obtain⟨vv,dv,h1,h2,h3⟩:=h.cell;have hm:=h.map;simp only at h1 h2 h3 hm;have hvm:V≠[]->vb≠m:=fun hV=>by
  have hr:=(h2.at hV).2;rintro rfl;rw[hm]at hr;cases hr
 refine⟨v,v',T',R',clk',fun H' hH T1=>k1 H' T1 m hH,k2,fun H' hH T1=>k3 H' T1 m hH,⟨vv,dv,?_,?_,?_⟩,?_,k4,k5⟩
 . show (H.set m _)[B]?=_;rw[qqX (Ne.symm hne)];exact h1
 . exact h2.keep fun x hl hx=>by rw[qqX (Ne.symm (hvm hl))];exact hx
 . rcases h3 with h3|⟨a,b,c,d,e⟩
   . exact .inl h3
   . obtain⟨q1,q2⟩:=k7 td (qqV.1 d).1 e;exact .inr ⟨a,b,c,by show T'[td]?=_;rw[q1];exact d,q2⟩
 . show (H.set m _)[m]?=_;rw[qq4 (qqV.1 hm).1]
end
end
section
def qeF:List (Nat×Sch×List Nat):=[(6,.step 0 [16,15,14,13] (.step 1 [16,15,14,13,12,5,4,3,2] (.step 2 [16,15,14,13,12,5,4,3] (.step 3 [16,15,14,13,12,5,4] (.step 4 [16,15,14,13,12,5] (.step 5 [16,15,14,13,12] (.step 6 [16,15,14,13,12,11,10] (.step 7 [16,15,14,13,12,11,10,9,8] (.step 8 [16,15,14,13,12,11,10,9] (.step 9 [16,15,14,13,12,11,10] (.step 10 [16,15,14,13,12,11] (.step 11 [16,15,14,13,12] (.step 12 [16,15,14,13] (.step 13 [16,15,14] (.step 14 [16,15] (.step 15 [16] (.step 16 [] (.done))))))))))))))))),[]),(16,.step 0 [14,3,2,1] (.step 1 [14,3,2] (.step 2 [14,3] (.step 3 [14] (.step 4 [14] (.step 5 [14,13,10,8,7,6] (.step 6 [14,13,10,8,7] (.step 7 [14,13,10,8] (.step 8 [14,13,10] (.step 9 [14,13,10] (.step 10 [14,13] (.step 11 [14,13,12] (.step 12 [14,13] (.step 13 [14] (.step 14 [] (.done))))))))))))))),[])]
section
variable {T0:List (Option Nat)}{B vb m:Nat}{c:Cls}{V:List Var}
theorem dupBX {O:St}{D:List Dist}{E:List (Int×Int)}{td:Nat}{R:List Rec}{clk:Nat}(h:BX T0 B vb m c V O D E td R clk):B<O.H.length/\m<O.H.length:=by
 obtain⟨vv,dv,h1,_⟩:=h.cell;exact⟨(qqV.1 h1).1,(qqV.1 h.map).1⟩
theorem ZR (V:List Var)(s:Str):(wj V s).length<=8:=by
 unfold wj;split
 . simp
 . have:=jy V s;simpa using this
theorem qlE (x:It)(hk:x.kind=3)(hV:∀ v∈V,js v.name=true)(hl:V.length<=1000)(hn:x.name.length<=1000)(hw:x.ws.length<=1000)(H:List Blk)(T:List (Option Nat)){D:List Dist}{E:List (Int×Int)}{td:Nat}{R:List Rec}{clk:Nat}(hD:D.length+8<=1000000)
 (h:BX T0 B vb m c V ⟨H,T⟩ D E td R clk):qq Zp GG 49 [.ptr B 0,.agg (qK x)] ⟨H,T⟩ (fun _ O'=>∃ td' R' clk',BX T0 B vb m c V O' (D++z5 V x) E td' R' clk'/\Kp2 B m H O'.H):=by
 refine qq.kO ⟨false,qeF,[],[]⟩ qg Tryz.func49 rfl (by kernel_rfl) ?_;have hds:z5 V x=(zX V [x.name]).map fun i=>⟨i,x.ws⟩:=by unfold z5;rw[if_pos hk];simp[zX]
 have hlen:(zX V [x.name]).length<=8:=by have:=ZR V x.name;simpa[zX] using this
 rw[hds];have h1:=h.ext [.cells (qK x)] qr6;obtain⟨vv,dv,hb,hv,hdv⟩:=h1.cell;have hnm:=qa1 V hl hV [x.name] (by simpa using hn) (by simp) _ T B vb _ _ _ _ vv _ _ dv _ _ hb hv;have hc106:=qbF x.ws (by omega);generalize zX V [x.name]=L at *;simp only[ql x,qa x.expr,hk,qrd,qrh,qqZ,qq9,qs]at hnm;simp[-getElem?_pos,ql x,qa x.expr,hk];refine qd.acall (hnm.leq (by simp[zt,Leq])) ?_;rintro v O' ⟨rfl,T1,rfl,hT1⟩;have h2:=h.ext [.cells (qK x)] hT1;simp[-getElem?_pos];refine qv.listR L (fun d ev O=>ev 0=.ptr B 0/\ev 3=.ptr H.length 0/\ev 18=sN L/\ev 19=I_ L.length/\ev 20=I_ d.length/\O.H[H.length]?=some (.cells (qK x))/\(∃ td' R' clk',BX T0 B vb m c V O (D++d.map fun i=>⟨i,x.ws⟩) E td' R' clk')/\Kp2 B m H O.H) ?_ ?_ ?_
 . refine⟨by simp,by simp,by simp,by simp,by simp,by simp[ql x,qa x.expr,hk],⟨td,R,clk,?_⟩,Kp2.app⟩;simpa[ql x,qa x.expr,hk] using h2
 . rintro d i l ev ⟨H2,T2⟩ Rl hRl hd hx hlt ⟨h0,h3,h18,h19,h20,he,⟨td2,R2,clk2,hB⟩,hkp⟩;have hdl:d.length<L.length:=hlt;obtain⟨vv2,dv2,v',T3,td3,hb2,happ,hac,hB3⟩:=hB.dist (by simp;omega) ⟨i,x.ws⟩;have hBne:H.length≠B/\H.length≠m:=(by have:=dupBX h;simp only at this;omega);have hs4:=fun (y:Blk) (t:List Blk)=>zV hb2 t y
   simp only[ql x,qa x.expr,hk,qrd,qrh]at he;simp only[qG]at happ;have hseq:∀ y,(H2.set B y)[H.length]?=some (.cells [I_ 3,I_ x.expr.op,I_ x.expr.n,.str x.expr.name,sE x.expr.args,.str x.name,.str x.index,sW x.ws,sI x.items,sI x.els,sS x.before,sS x.after]):=fun y=>by
    rw[qqX (Ne.symm hBne.1)];exact he
   simp[-getElem?_pos,h18,h19,h20,hlt,hx];rw[zJ rfl];simp[-getElem?_pos,zR,h0,h3,hb2,he];refine qd.call hc106 (by simp) ?_;simp[-getElem?_pos,zR,h20,hb2,happ,hac];refine hRl _ _ ⟨h0,h3,h18,h19,by simp;exact wr (by omega) (by omega),?_,⟨td3,R2,clk2,?_⟩,?_⟩
   . simp only[ql x,qa x.expr,hk,qrd,qrh];exact hseq _
   . rw[qrf,<- qri];exact hB3
   . refine⟨by simpa using hkp.1,fun k y hky hkB hkm=>?_⟩;rw[qqX (Ne.symm hkB)];exact hkp.2 k y hky hkB hkm
 . rintro ev O ⟨h0,h3,h18,h19,h20,he,⟨td2,R2,clk2,hB⟩,hkp⟩;simp[-getElem?_pos,h19,h20];exact⟨⟨td2,R2,clk2,hB⟩,hkp⟩
end
end
section
theorem qgH {H:List Blk}{n:Nat}{c:List AV}:frz H (n+1) (.agg c)=.agg (c.map (frz H n)):=by
 by_cases h:zg (.agg c)=true
 . rw[qP h];congr 1;simp only[zg]at h
   induction c with
   | nil=>rfl
   | cons a r ih=>
    simp only[qu,qq1]at h;rw[qqZ,qP h.1,<- ih h.2]
 . rw[frz,if_neg h]
section
variable {T0:List (Option Nat)}{B vb m:Nat}{c:Cls}{V:List Var}
theorem qgE {H:List Blk}{vv dv:AV}{D:List Dist}(hv:zi vb 4 qo H vv V)(hd:∃ sz tok,dv=.sl sz (D.map qG) tok/\(sz=2\/D=[]))(i:Int) :
 zt ([.agg [vv,.sl 0 [] .nil,.sl 0 [] .nil,dv,.sl 0 [] .nil],I_ i].map (frz H 8)) [.agg [sV V,.sl 0 [] .nil,.sl 0 [] .nil,sD D,.sl 0 [] .nil],I_ i]:=by
 obtain⟨sz,tok,rfl,hsz⟩:=hd;have h1:=hv.frz (fun x=>by simp) (fun x=>by simp) (fun x=>by simp) 6;have h2:=qbn (sz:=sz) (sz':=2) (en:=qG) (fun x=>by simp) (fun x=>by simp) H 6 D tok hsz;have h3:frz H 7 (.sl 0 [] .nil)=.sl 0 [] .nil:=qP rfl;simp only[qqZ,qq9,qgH,qkK,zt,Leq,and_true,true_and,h3];exact⟨h1,by simp,by simp,h2,by simp⟩
theorem BX.dists {O:St}{D:List Dist}{td:Nat}{R:List Rec}{dv:AV}(h:(D=[]/\dv=.sl 0 [] .nil)\/(D≠[]/\dv=.sl 2 (D.map qG) (.chain td D.length)/\T0.length<=td/\O.T[td]?=some (some D.length)/\∀ r∈R,r.tok≠td)) :
 ∃ sz tok,dv=.sl sz (D.map qG) tok/\(sz=2\/D=[]):=by
 rcases h with ⟨rfl,rfl⟩|⟨_,rfl,_⟩
 . exact⟨0,.nil,rfl,.inr rfl⟩
 . exact⟨2,_,rfl,.inl rfl⟩
theorem qaf (V:List Var)(ks:List Int)(i:Int):(yK V ks i).length<=ks.length:=by
 unfold yK;rw[qrv];exact qrr _ _
theorem WK (V:List Var)(ks:List Int):∀ l:List Int,(l.flatMap (yK V ks)).length<=l.length*ks.length
 | []=>by simp
 | i::r=>by
  have h1:=qaf V ks i;have h2:=WK V ks r;rw[qrm,qqY,qq5,qse];omega
theorem qiA (x:It)(hk:x.kind=6)(hV:∀ v∈V,js v.name=true)(hl:V.length<=1000)(hb:∀ s∈x.before,s.length<=1000)(ha:∀ s∈x.after,s.length<=1000)(hbl:x.before.length<=1000)(hal:x.after.length<=1000)(H:List Blk)(T:List (Option Nat)){D:List Dist}{E:List (Int×Int)}{td:Nat}{R:List Rec}{clk:Nat}(hE:E.length+(zX V x.after).length*(zX V x.before).length<=1000000000)
 (h:BX T0 B vb m c V ⟨H,T⟩ D E td R clk) (hL1:(zX V x.after).length<=100000) (hL2:(zX V x.before).length<=100000) :
 qq Zp GG 49 [.ptr B 0,.agg (qK x)] ⟨H,T⟩ (fun _ O'=>∃ td' R' clk',BX T0 B vb m c V O' D (E++zE V x) td' R' clk'/\Kp2 B m H O'.H):=by
 refine qq.kO ⟨false,qeF,[],[]⟩ qg Tryz.func49 rfl (by kernel_rfl) ?_;have hds:zE V x=(zX V x.after).flatMap (yK V (zX V x.before)):=by unfold zE;rw[if_pos hk]
 rw[hds];have hnmB:=fun (H':List Blk) (T':List (Option Nat)) (a0 a1 a2 a3 vv a5 a6 a7 a8 a9:AV) hB hv=>qa1 V hl hV x.before hb (by omega) H' T' B vb a0 a1 a2 a3 vv a5 a6 a7 a8 a9 hB hv
 have hbx:=h.ext [.cells (qK x)] qr6;obtain⟨vv,dv,hb1,hv1,hdv1⟩:=hbx.cell;have hnmA:=qa1 V hl hV x.after ha (by omega) _ T B vb _ _ _ _ vv _ _ dv _ _ hb1 hv1;have hBne:H.length≠B/\H.length≠m:=by have:=dupBX h;simp only at this;omega
 generalize zX V x.after=L at *;generalize zX V x.before=K at *;simp only[ql x,qa x.expr,hk,qrd,qrh]at hnmA;simp[-getElem?_pos,ql x,qa x.expr,hk];refine qd.acall hnmA ?_;rintro v O' ⟨rfl,T1,rfl,hT1⟩;have h2:=h.ext [.cells (qK x)] hT1;simp[-getElem?_pos];refine qv.listR L (fun d ev O=>ev 0=.ptr B 0/\ev 3=.ptr H.length 0/\ev 46=sN L/\ev 47=I_ L.length/\ev 48=I_ d.length/\O.H[H.length]?=some (.cells (qK x))/\(∃ td' R' clk',BX T0 B vb m c V O D (E++d.flatMap (yK V K)) td' R' clk')/\Kp2 B m H O.H) ?_ ?_ ?_
 . refine⟨by simp,by simp,by simp,by simp,by simp,by simp[ql x,qa x.expr,hk],⟨td,R,clk,?_⟩,Kp2.app⟩;simpa[ql x,qa x.expr,hk] using h2
 . rintro d i l ev ⟨H2,T2⟩ Rl hRl hd hx hlt ⟨h0,h3,h46,h47,h48,he,⟨td2,R2,clk2,hB⟩,hkp⟩;obtain⟨vv2,dv2,hb2,hv2,hdv2⟩:=hB.cell;have hnm2:=hnmB H2 T2 _ _ _ _ vv2 _ _ dv2 _ _ hb2 hv2;simp only[ql x,qa x.expr,hk,qrd,qrh]at he;simp[-getElem?_pos,h0,h3,h46,h47,h48,hlt,hx,he];refine qd.acall hnm2 ?_;rintro v O' ⟨rfl,T3,rfl,hT3⟩;have hB3:=hB.ext [] hT3;rw[qrl]at hB3;have hfm:(d++[i]).flatMap (yK V K)=d.flatMap (yK V K)++yK V K i:=(by simp);have hdE:E.length+(d.flatMap (yK V K)).length+K.length<=1000000000:=by
    have h1:=WK V K d;have h4:(d.length+1)*K.length<=L.length*K.length:=qrJ _ hlt;rw[qse]at h4;omega
   have hEl:(E++d.flatMap (yK V K)).length+K.length<=1000000000:=(by rw[qqY];exact hdE);have hdl:d.length<=100000:=(by omega);generalize hE2:E++d.flatMap (yK V K)=E2 at *;simp[-getElem?_pos];refine qv.listR K (fun d2 ev O=>ev 0=.ptr B 0/\ev 3=.ptr H.length 0/\ev 7=I_ i/\ev 46=sN L/\ev 47=I_ L.length/\ev 48=I_ d.length/\ev 55=sN K/\ev 56=I_ K.length/\ev 57=I_ d2.length/\O.H[H.length]?=some (.cells (qK x))/\(∃ td' R' clk',BX T0 B vb m c V O D (E2++yK V d2 i) td' R' clk')/\Kp2 B m H O.H) ?_ ?_ ?_
   . refine⟨h0,h3,by simp,h46,h47,h48,by simp,by simp,by simp,?_,⟨td2,R2,clk2,?_⟩,hkp⟩
     . simp only[ql x,qa x.expr,hk,qrd,qrh];exact he
     . simpa[yK] using hB3
   . clear h0 h3 h46 h47 h48 hb2 hv2 hdv2 hnm2 hB hB3 he hkp;rintro d2 k l2 ev ⟨H4,T4⟩ Rm hRm hd2 hx2 hlt2 ⟨h0,h3,h7,h46,h47,h48,h55,h56,h57,he,⟨td4,R4,clk4,hB⟩,hkp⟩;obtain⟨vv4,dv4,hb4,hv4,hdv4⟩:=hB.cell;have hr1:=qeD V (.sl 0 [] .nil) (.sl 0 [] .nil) (sD D) (.sl 0 [] .nil) rfl rfl rfl rfl;have hfz:=qgE hv4 (BX.dists hdv4);have hd2l:d2.length<=100000:=(by omega);have hed:yK V (d2++[k]) i=yK V d2 i++(if (zW V i&&zW V k)=true then [(i,k)] else []):=by
      unfold yK;rw[qrI,qrf];by_cases e:(zW V i&&zW V k)=true
      . simp[e]
      . have e':(zW V i&&zW V k)=false:=(by simpa using e);simp[e']
     have hd2e:=qaf V d2 i;have hE5:(E2++yK V d2 i).length<=1000000000:=(by rw[qqY];omega);have keep:∀ (env:Env),env 0=.ptr B 0->env 3=.ptr H.length 0->True:=fun _ _ _=>trivial
     simp[-getElem?_pos,h0,h7,h55,h56,h57,hlt2,hx2,hb4];refine qd.lent (hr1 i) rfl (hfz i) ?_;cases hri:zW V i
     . rw[hri]at hed;simp only[qsN,qrq,if_false,qrl]at hed;simp[-getElem?_pos,h57];refine hRm _ _ ⟨h0,h3,h7,h46,h47,h48,h55,h56,by simp;exact wr (by omega) (by omega),he,⟨td4,R4,clk4,by rw[hed];exact hB⟩,hkp⟩
     . simp[-getElem?_pos,h0,hb4];refine qd.lent (hr1 k) rfl (hfz k) ?_;cases hrk:zW V k
       . rw[hri,hrk]at hed;simp only[qsO,qrq,if_false,qrl]at hed;simp[-getElem?_pos,h57];refine hRm _ _ ⟨h0,h3,h7,h46,h47,h48,h55,h56,by simp;exact wr (by omega) (by omega),he,⟨td4,R4,clk4,by rw[hed];exact hB⟩,hkp⟩
       . rw[hri,hrk]at hed;simp only[qty,if_true]at hed;obtain⟨v,v',T5,R5,clk5,k1,k2,k3,hB5⟩:=hB.edge hE5 i k;have hm4:=hB.map;simp only at hm4;simp[-getElem?_pos];rw[zJ rfl];have k1':=fun T1=>k1 H4 hm4 T1
         have k3':=fun T1=>k3 H4 hm4 T1
         simp[-getElem?_pos,zR,h0,h7,h57,hb4,k1',k2,k3'];refine hRm _ _ ⟨h0,h3,h7,h46,h47,h48,h55,h56,by simp;exact wr (by omega) (by omega),?_,⟨td4,R5,clk5,by rw[hed,<- qri];exact hB5⟩,?_⟩
         . show (H4.set m _)[H.length]?=_;rw[qqX (Ne.symm hBne.2)];exact he
         . refine⟨by simpa using hkp.1,fun q y hq hqB hqm=>?_⟩;show (H4.set m _)[q]?=_;rw[qqX (Ne.symm hqm)];exact hkp.2 q y hq hqB hqm
   . clear h0 h3 h46 h47 h48 hb2 hv2 hdv2 hnm2 hB hB3 he hkp;rintro ev O ⟨h0,h3,h7,h46,h47,h48,h55,h56,h57,he,hBx,hkp⟩;simp[-getElem?_pos,h48,h56,h57];refine hRl _ _ ⟨h0,h3,h46,h47,by simp;exact wr (by omega) (by omega),he,?_,hkp⟩;rw[hfm,<- qri,hE2];exact hBx
 . rintro ev O ⟨h0,h3,h46,h47,h48,he,⟨td2,R2,clk2,hB⟩,hkp⟩;simp[-getElem?_pos,h47,h48];exact⟨⟨td2,R2,clk2,hB⟩,hkp⟩
end
end
section
def Zc:List (Nat×Sch×List Nat):=[(4,.step 0 [9] (.step 1 [9,8,2] (.step 3 [9,8,7,6] (.step 4 [9,8,7,6,5] (.step 5 [9,8,7,6] (.fork (.cons 2 (.step 6 [9,8,7] (.step 7 [9,8] (.step 8 [9] (.step 9 [] (.done))))) (.cons 6 (.step 2 [9,8] (.step 7 [9,8] (.step 8 [9] (.step 9 [] (.done))))) (.nil)))))))),[6,9]),(17,.step 0 [9] (.step 1 [9,8,2] (.step 2 [9,8] (.step 3 [9,8,4] (.step 4 [9,8] (.step 5 [9,8,7,6] (.step 6 [9,8,7] (.step 7 [9,8] (.step 8 [9] (.step 9 [] (.done)))))))))),[9]),(19,.step 0 [10] (.step 1 [10,9,2] (.step 2 [10,9] (.step 3 [10,9,8,5,4] (.step 4 [10,9,8,5] (.step 5 [10,9,8] (.step 6 [10,9,8,7] (.step 7 [10,9,8] (.step 8 [10,9] (.step 9 [10] (.step 10 [] (.done))))))))))),[10])]
def qfJ (F:yB)(h:Nat)(c:Option Ex)(x:It):Prop :=
 ∀ (H:List Blk) (T:List (Option Nat)) (b ob mb:Nat) (L:List It) (cp:AV),XAt H b ob mb F L->vY H cp c->qq Zp GG 180 [.ptr b 0,.agg (qK x),cp] ⟨H,T⟩ (fun _ O'=>∃ ob',Grow F b ob mb L (zC F h c x) ⟨H,T⟩ O' ob')
def qd4 (F:yB)(h:Nat)(c:Option Ex)(l:List It):Prop :=
 ∀ (H:List Blk) (T:List (Option Nat)) (b ob mb:Nat) (L:List It) (cp:AV),XAt H b ob mb F L->vY H cp c->qq Zp GG 104 [.ptr b 0,sI l,cp] ⟨H,T⟩ (fun _ O'=>∃ ob',Grow F b ob mb L (qQ F h c l) ⟨H,T⟩ O' ob')
theorem qkg (F:yB)(h:Nat)(c:Option Ex)(l:List It)(hl:Fits l)(ho:∀ x∈l,qfJ F h c x):qd4 F h c l:=by
 intro H T b ob mb L cp hX hC;refine qq.k qg Tryz.func104 rfl (by kernel_rfl) ?_;simp[-getElem?_pos];refine qv.listR l (fun d ev O=>ev 0=.ptr b 0/\ev 2=cp/\ev 8=sI l/\ev 9=I_ l.length/\ev 10=I_ d.length/\∃ ob',Grow F b ob mb L (qQ F h c d) ⟨H,T⟩ O ob') ?_ ?_ ?_
 . exact⟨by simp,by simp,by simp,by simp,by simp,ob,by simpa[qQ] using Grow.push (t:=[]) (T:=T) hX⟩
 . rintro d x r ev ⟨H1,T1⟩ R hR hdl hx hlt ⟨h0,h2,h8,h9,h10,ob1,hg⟩;have hxo:=ho x (qqW hx);obtain⟨v,hb,hv⟩:=hg.now.cell;simp only at hb;have hxe:qQ F h c l=qQ F h c d++(zC F h c x++qQ F h c r):=(by rw[hdl];simp[qQ]);by_cases h4:400<(L++qQ F h c d).length
   . have hd:decide (400<(L++qQ F h c d).length)=true:=decide_eq_true h4;rw[hd]at hb;simp[-getElem?_pos,h0,h8,h9,h10,hlt,hx,ql,qa,qb hb];have hp:=hg.trans (Grow.push (T:=T1) (t:=[.cells (qK x)]) hg.now);rw[qrl]at hp;simp only[ql,qa,qrd,qrh]at hp;rw[hxe];exact⟨ob1,hp.full h4 _⟩
   . have hd:decide (400<(L++qQ F h c d).length)=false:=decide_eq_false h4;rw[hd]at hb;have hp:=hg.trans (Grow.push (T:=T1) (t:=[.cells (qK x)]) hg.now);rw[qrl]at hp;have hone:=hxo (H1++[.cells (qK x)]) T1 b ob1 mb (L++qQ F h c d) cp hp.now (hp.cond hX hC);simp only[ql,qa,qrd,qrh]at hone hp;simp[-getElem?_pos,h0,h2,h8,h9,h10,hlt,hx,ql,qa,qb hb];refine qd.acall hone ?_;rintro v2 ⟨H2,T2⟩ ⟨ob2,hg2⟩;simp[-getElem?_pos,h10];refine hR _ _ ⟨h0,h2,h8,h9,by simp;exact wr (by omega) (by omega),ob2,?_⟩;have e:qQ F h c (d++[x])=qQ F h c d++zC F h c x:=(by simp[qQ]);rw[e];exact hp.trans hg2
 . rintro ev O ⟨h0,h2,h8,h9,h10,ob1,hg⟩;simp[-getElem?_pos,h9,h10];exact⟨ob1,hg⟩
theorem qfh {F:yB}{h:Nat}{c:Option Ex}{x:It}(hk:x.kind=1\/x.kind=2):zC F (h+1) c x=[Zt x.kind (qZ [] zEx (zm c 21 x.expr))]:=by simp only[zC,if_pos hk]
theorem qkZ {F:yB}{h:Nat}{c:Option Ex}{x:It}(hk:x.kind=4):zC F (h+1) c x=qQ F h (some (zm c 19 x.expr)) x.items++qQ F h (some (zm c 19 (YO x.expr))) x.els:=by
 simp only[zC];rw[if_neg (by omega),if_pos hk];rfl
theorem qfi {F:yB}{h:Nat}{c:Option Ex}{x:It}(hk:x.kind=5):zC F (h+1) c x=(List.range ((F x.name).getD 0).toNat).flatMap fun (k:Nat)=>qQ F h c (x.items.map (qN x.index (cEx k))):=by
 simp only[zC];rw[if_neg (by omega),if_neg (by omega),if_pos hk];rfl
theorem qfj {F:yB}{h:Nat}{c:Option Ex}{x:It}(hk:x.kind=3):zC F (h+1) c x=[.mk 3 zEx x.name [] x.ws [] [] [] []]:=by
 simp only[zC];rw[if_neg (by omega),if_neg (by omega),if_neg (by omega),if_pos hk]
theorem qdu {F:yB}{h:Nat}{c:Option Ex}{x:It}(hk:x.kind=6):zC F (h+1) c x=[.mk 6 zEx [] [] [] [] [] x.before x.after]:=by
 simp only[zC];rw[if_neg (by omega),if_neg (by omega),if_neg (by omega),if_neg (by omega),if_pos hk]
theorem qfg {F:yB}{h:Nat}{c:Option Ex}{x:It}(hk:x.kind<1\/6<x.kind):zC F (h+1) c x=[]:=by
 simp only[zC];rw[if_neg (by omega),if_neg (by omega),if_neg (by omega),if_neg (by omega),if_neg (by omega)]
section
variable {F:yB}{h:Nat}{c:Option Ex}{x:It}{n:Nat}
theorem Wp {b ob mb:Nat}{L M:List It}{H t:List Blk}{T:List (Option Nat)}{O':St}(hX:XAt H b ob mb F L)(h:∃ ob',Grow F b ob mb L M ⟨H++t,T⟩ O' ob'):∃ ob',Grow F b ob mb L M ⟨H,T⟩ O' ob':=by
 obtain⟨ob',hg⟩:=h;have h1:=Grow.push (T:=T) (t:=t) hX;refine⟨ob',?_⟩;have:=h1.trans (by rw[qrl];exact hg);simpa using this
theorem qbm {b ob ob' mb:Nat}{L M:List It}{H t:List Blk}{T:List (Option Nat)}{O':St}(hX:XAt H b ob mb F L)(hg:Grow F b ob mb L M ⟨H++t,T⟩ O' ob'):Grow F b ob mb L M ⟨H,T⟩ O' ob':=by
 have h1:=Grow.push (T:=T) (t:=t) hX;have:=h1.trans (by rw[qrl];exact hg);simpa using this
theorem qhP (hk:x.kind=1\/x.kind=2)(hc:CondOk c n)(hx:Wee1 x):qfJ F (h+1) c x:=by
 intro H T b ob mb L cp hX hC;refine qq.kO ⟨false,Zc,[],[]⟩ qg Tryz.func180 rfl (by kernel_rfl) ?_;rw[qfh hk];have hu:=fun (t:List Blk)=>qaC (hC.app (t:=t)) 21 x.expr T
 have hcp:=qdJ (zm c 21 x.expr) (ZH hc hx.low.slim);have ha:=fun (t:List Blk)=>qlF (Zt x.kind (qZ [] zEx (zm c 21 x.expr))) (H++t) T (hX.app (t:=t))
 generalize qZ [] zEx (zm c 21 x.expr)=R at *;generalize zm c 21 x.expr=U at *;simp only[qa U,qa R,qa x.expr]at hu hcp;rcases hk with hk|hk
 all_goals
  rw[hk]at ha ⊢;simp[-getElem?_pos,ql x,qa x.expr,hk];rw[zJ rfl];simp[-getElem?_pos,zR,ZF];refine And.intro ?_ ?_
  all_goals
   refine qd.acall (hu _) ?_;rintro v O' ⟨rfl,t,rfl⟩;simp[-getElem?_pos,zR,ZF];refine qd.call hcp (by simp) ?_;simp[-getElem?_pos,zR,ZF];refine qd.acall ((ha _).leq (by simp[ql,Zt,It.kind,It.expr,It.name,It.index,It.ws,It.items,It.els,It.before,It.after,qa R,zt,Leq])) ?_;rintro v O' hg;simp[-getElem?_pos];exact Wp hX hg
theorem qmW (hk:x.kind=4)(hc:CondOk c n)(hx:Wee1 x)(hfi:Fits x.items)(h1:qd4 F h (some (zm c 19 x.expr)) x.items)(h2:qd4 F h (some (zm c 19 (YO x.expr))) x.els):qfJ F (h+1) c x:=by
 intro H T b ob mb L cp hX hC;refine qq.kO ⟨false,Zc,[],[]⟩ qg Tryz.func180 rfl (by kernel_rfl) ?_;rw[qkZ hk];have hu:=fun (t:List Blk)=>qaC (hC.app (t:=t)) 19 x.expr T
 have hw:=fun (H':List Blk) (T':List (Option Nat)) (hC':vY H' cp c)=>qaC hC' 19 (YO x.expr) T'
 generalize hU1:zm c 19 x.expr=U1 at *;generalize hU2:zm c 19 (YO x.expr)=U2 at *;simp only[qa U1,qa x.expr]at hu;simp[-getElem?_pos,ql x,qa x.expr,hk];refine qd.acall (hu _) ?_;rintro v O' ⟨rfl,t,rfl⟩;simp[-getElem?_pos];refine qd.acall (h1 _ T b ob mb L _ hX.app ⟨_,rfl,by simp[qa U1]⟩) ?_;rintro v ⟨H2,T2⟩ ⟨ob1,hg1⟩;have hg0:=qbm hX hg1;have e4:=hg1.mine (k:=H.length) (x:=.cells (qK x)) hX (by simp[ql x,qa x.expr,hk]) (qrn _);simp only[ql x,qa x.expr,hk,qrd,qrh]at e4;have hC2:=hg0.cond hX hC;simp[-getElem?_pos,e4];refine qd.acall ((hw _ _ hC2).leq (by simp[YO,qa (Ex.mk _ _ _ _),qa x.expr,zt,Leq])) ?_;rintro v O' ⟨rfl,t2,rfl⟩;simp[-getElem?_pos,qb e4,qa U2];refine qd.acall (h2 _ T2 b ob1 mb _ _ hg0.now.app ⟨_,rfl,by simp[qa U2]⟩) ?_;rintro v ⟨H3,T3⟩ ⟨ob2,hg2⟩;simp[-getElem?_pos];exact⟨ob2,hg0.trans (qbm hg0.now hg2)⟩
end
end
section
section
variable {F:yB}{h:Nat}{c:Option Ex}{x:It}{n:Nat}
theorem qhR (hk:x.kind=3)(hx:Wee1 x):qfJ F (h+1) c x:=by
 intro H T b ob mb L cp hX hC;refine qq.kO ⟨false,Zc,[],[]⟩ qg Tryz.func180 rfl (by kernel_rfl) ?_;rw[qfj hk];have hw:=qbF x.ws (by have:=hx.low.ws;omega);have ha:=fun (t:List Blk)=>qlF (.mk 3 zEx x.name [] x.ws [] [] [] []) (H++t) T (hX.app (t:=t))
 simp[ql x,qa x.expr,hk];rw[zJ rfl];simp[zR,ZF];refine qd.call hw (by simp) ?_;simp[zR,ZF];refine qd.acall ((ha _).leq (by simp[ql,It.kind,It.expr,It.name,It.index,It.ws,It.items,It.els,It.before,It.after,zEx,qa (Ex.mk _ _ _ _),zt,Leq])) ?_;rintro v O' hg;simp;exact Wp hX hg
theorem qeP (hk:x.kind=6)(hx:Wee1 x):qfJ F (h+1) c x:=by
 intro H T b ob mb L cp hX hC;refine qq.kO ⟨false,Zc,[],[]⟩ qg Tryz.func180 rfl (by kernel_rfl) ?_;rw[qdu hk];have hb:=Ke x.before (by have:=hx.low.before;omega);have hf:=Ke x.after (by have:=hx.low.after;omega);have ha:=fun (t:List Blk) (T':List (Option Nat))=>qlF (.mk 6 zEx [] [] [] [] [] x.before x.after) (H++t) T' (hX.app (t:=t))
 simp[ql x,qa x.expr,hk];rw[zJ rfl];simp[zR,ZF];refine qd.call hb (by simp) ?_;simp[zR,ZF];refine qd.call hf (by simp) ?_;simp[zR,ZF];refine qd.acall ((ha _ _).leq (by simp[ql,It.kind,It.expr,It.name,It.index,It.ws,It.items,It.els,It.before,It.after,zEx,qa (Ex.mk _ _ _ _),zt,Leq])) ?_;rintro v O' hg;simp;exact Wp hX hg
theorem qhO (hk:x.kind<1\/6<x.kind):qfJ F (h+1) c x:=by
 intro H T b ob mb L cp hX hC;refine qq.kO ⟨false,Zc,[],[]⟩ qg Tryz.func180 rfl (by kernel_rfl) ?_;rw[qfg hk];have k1:¬ x.kind=1:=by omega
 have k2:¬ x.kind=2:=by omega
 have k3:¬ x.kind=3:=by omega
 have k4:¬ x.kind=4:=by omega
 have k5:¬ x.kind=5:=by omega
 have k6:¬ x.kind=6:=by omega
 simp[ql x,qa x.expr,k1,k2,k3,k4,k5,k6];exact⟨ob,Grow.push hX⟩
theorem qhQ (hk:x.kind=5)(hx:Vp x)(hr:∀ n,F x.name=some n->n<=1000)(hl:∀ k:Nat,qd4 F h c (x.items.map (qN x.index (cEx k)))):qfJ F (h+1) c x:=by
 intro H T b ob mb L cp hX hC;refine qq.kO ⟨false,Zc,[],[]⟩ qg Tryz.func180 rfl (by kernel_rfl) ?_;rw[qfi hk];have hm:=hX.map;obtain⟨v,hb,hov⟩:=hX.cell;obtain⟨es,clk,hmb,hkv⟩:=hm;have lk:=fun (H':List Blk) (T':List (Option Nat)) (b:Nat) (s:Str) (ok:Bool) (h:H'[b]?=some (.map es clk))=>vD hkv (T:=T') h s ok
 have hsub:=fun k:Nat=>Vh x.index (cEx k) (qaG k) x.items hx.self.low.items fun y hy=>(hx.item hy).lowI
 simp[ql x,qa x.expr,hk];rw[qeX rfl];simp[qb hb,lk,qb hmb];obtain⟨m,hmm⟩:∃ m:Nat,m=((F x.name).getD 0).toNat:=⟨_,rfl⟩;rw[<- hmm];have hm1:m<=1000:=by
  rw[hmm]
  cases e:F x.name with
  | none=>simp
  | some n=>have:=hr n e;simp;omega
 have hlt:∀ k:Nat,((k:Int)<(F x.name).getD 0)↔k<m:=fun k=>by omega
 generalize (F x.name).getD 0=N at hmm hlt;refine qv.count m (fun k ev O=>ev 0=.ptr b 0/\ev 2=cp/\ev 4=.ptr H.length 0/\ev 52=I_ N/\ev 53=I_ k/\∃ ob',Grow F b ob mb L ((List.range k).flatMap fun (k:Nat)=>qQ F h c (x.items.map (qN x.index (cEx k)))) ⟨H++[.cells (qK x)],T⟩ O ob') ?_ ?_ ?_
 . have:=Grow.push (T:=T) (t:=[]) (hX.app (t:=[.cells (qK x)]));refine⟨by simp,by simp,by simp,by simp,by simp,ob,?_⟩;simpa[ql x,qa x.expr,hk] using this
 . rintro k ev ⟨H1,T1⟩ hkm ⟨h0,h2,h4,h52,h53,ob1,hg⟩;have hkn:(k:Int)<N:=(hlt k).2 hkm;have he4:=hg.mine hX (k:=H.length) (x:=.cells (qK x)) (by simp) (qrn _);simp only[ql x,qa x.expr,hk,qrd,qrh]at he4;simp[h0,h4,h52,h53,hkn,he4];refine qd.less (hsub k) (by simp) (by simp[cEx,qa (Ex.mk _ _ _ _),zt,Leq]) ?_;simp[h2];have hl1:=hl k H1 T1 b ob1 mb _ cp hg.now (hg.cond hX.app hC.app);simp only[sI,qr2]at hl1;refine qd.acall hl1 ?_;rintro v ⟨H2,T2⟩ ⟨ob2,hg2⟩;simp[h0,h2,h4,h52,h53];refine⟨wr (by omega) (by omega),ob2,?_⟩;rw[qrX,qsG];simpa using hg.trans hg2
 . rintro ev O ⟨h0,h2,h4,h52,h53,ob1,hg⟩;have hkn:¬ (m:Int)<N:=fun h=>by have:=(hlt m).1 h;omega
   simp[h52,h53,hkn];exact⟨ob1,qbm hX hg⟩
end
end
theorem qj8 (x:It):1<=jG x:=by rw[j6];omega
theorem Zi {F:yB}(hF:∀ a n,F a=some n->n<=1000):∀ (h:Nat) (c:Option Ex) (n:Nat) (l:List It),CondOk c n->(∀ x∈l,Vp x/\jG x<=h)->l.length<=1000->qd4 F h c l
 | 0,c,n,l,_,hx,hl=>by
  refine qkg F 0 c l (by unfold Fits;omega) fun x hxm=>?_
  have:=(hx x hxm).2;have:=qj8 x;omega
 | h+1,c,n,l,hc,hx,hl=>by
  refine qkg F (h+1) c l (by unfold Fits;omega) fun x hxm=>?_
  obtain⟨hw,hn⟩:=hx x hxm;have hs:=hw.self;have hi:∀ y∈x.items,Vp y/\jG y<=h:=fun y hy=>⟨hw.item hy,by have:=yU hy;omega⟩
  have he:∀ y∈x.els,Vp y/\jG y<=h:=fun y hy=>⟨hw.els hy,by have:=vO hy;omega⟩
  by_cases k12:x.kind=1\/x.kind=2
  . exact qhP k12 hc hs
  by_cases k3:x.kind=3
  . exact qhR k3 hs
  by_cases k4:x.kind=4
  . exact qmW k4 hc hs (by have:=hs.low.items;unfold Fits;omega)
     (Zi hF h _ _ x.items (hc.under (op:=19) hs.low.slim hs.low.wen hs.size) hi hs.low.items)
     (Zi hF h _ _ x.els (hc.under (op:=19) (e:=YO x.expr) (k:=1001) (qcg hs.low.slim) (qfM hs.low.wen) (by rw[qga];have:=hs.size;omega)) he hs.low.els)
  by_cases k5:x.kind=5
  . refine qhQ k5 hw (fun n e=>hF _ _ e) fun k=>Zi hF h c n _ hc (fun y hy=>?_) (by simpa using hs.low.items)
    obtain⟨z,hz,rfl⟩:=qq3.1 hy;exact⟨(hi z hz).1.subst x.index k,by rw[KZ];exact (hi z hz).2⟩
  by_cases k6:x.kind=6
  . exact qeP k6 hs
  . exact qhO (by omega)
theorem Few.wee {l:List It}(h:Few l):∀ x∈l,Vp x:=fun x hx y hy=>⟨h.low y (qV.2 ⟨x,hx,hy⟩),h.size y (qV.2 ⟨x,hx,hy⟩)⟩
theorem Qm {F:yB}{l:List It}(h:Few l):∀ y∈qQ F 6 none l,OutOk 7014 y:=by
 intro y hy;obtain⟨x,hx,hxy⟩:=qrp.1 hy;exact (Qn 6 none 0 x CondOk.none (h.wee x hx) y hxy).mono (by omega)
noncomputable def qgU (x:It):Bool:=YU x.kind&&!decide (qM x.expr=0)
theorem qnG (l:List It)(c:Cls)(h:Few l)(hf:c.fields.length<=1000)(hF:∀ f∈c.fields,f.size<=1000):PZ 48 [sI l,.agg (qn c)] (.tup [.sl 12 ((kH (qc c) l).map qK) .none,I_ (qU (qc c) l)]):=by
 refine Pure.k qg Tryz.func48 rfl (by kernel_rfl) ?_;have hF':∀ a n,qc c a=some n->n<=1000:=fun a n e=>by
  obtain⟨f,hfm,_,rfl⟩:=kF e;exact hF f hfm
 have hr:qU (qc c) l=if jJ (qc c) l≠0 then jJ (qc c) l
  else if 400<(qQ (qc c) 6 none l).length then 2 else if (qQ (qc c) 6 none l).any qgU=true then 2 else 0:=rfl
 have hs:kH (qc c) l=if qU (qc c) l≠0 then [] else qQ (qc c) 6 none l:=rfl
 generalize kH (qc c) l=S at hs;generalize qU (qc c) l=r at hr hs;have hck:=qnZ l c h (by unfold Fits;omega);have hof:=fun O=>qpZ c (by unfold Fits;omega) O
 simp only[qn]at hck hof;simp;refine qd.call hck (by simp) ?_;by_cases h0:jJ (qc c) l=0
 . rw[if_neg (by simp[h0])]at hr;have hv:yf l=0:=by
    unfold jJ at h0;split at h0
    . rename_i hn;exact absurd h0 hn
    . rename_i hn;exact qrF.1 hn
   simp[h0];refine qd.acall (hof _) ?_;rintro v ⟨H1,T1⟩ ⟨mb,rfl,hm,he⟩;simp;have hX:XAt (H1++[.cells [.map mb,.sl 0 [] .nil,.bool false]]) H1.length 0 mb (qc c) []:=⟨⟨.sl 0 [] .nil,by simp,.inl ⟨rfl,rfl⟩⟩,hm.app⟩;refine qd.acall (Zi hF' 6 none 0 l CondOk.none (fun x hx=>⟨h.wee x hx,by have:=JR hv x hx;omega⟩) h.len _ T1 _ 0 mb [] .nilp hX rfl) ?_;rintro v ⟨H2,T2⟩ ⟨ob,hg⟩;have hnow:=hg.now;rw[qrh]at hnow;have hout:=Qm (F:=qc c) h;generalize qQ (qc c) 6 none l=L at *;obtain⟨v,hb,hov⟩:=hnow.cell;simp only at hb hov;by_cases h4:400<L.length
   . rw[if_pos h4]at hr;subst hr;rw[if_pos (by decide)]at hs;subst hs;simp[hb,h4]
   rw[if_neg h4]at hr;have hd4:decide (400<L.length)=false:=decide_eq_false h4;rw[hd4]at hb;rw[qrb (by omega)]at hov;rcases hov with ⟨rfl,rfl⟩|⟨hne,rfl,hrow⟩
   . simp only[List.any_nil,qrq,if_false]at hr hs;subst hr;rw[if_neg (by decide)]at hs;subst hs;simp[hb];refine qv.listR ([]:List It) (fun d ev O=>ev 7=.ptr H1.length 0/\ev 31=I_ 0/\ev 32=I_ 0/\O.H[H1.length]?=some (.cells [.map mb,.sl 0 [] .nil,.bool false])) ?_ ?_ ?_
     . exact⟨by simp,by simp,by simp,hb⟩
     . rintro d x l ev O R hR hd hx hlt _;simp at hlt
     . rintro ev ⟨H3,T3⟩ ⟨h7,h31,h32,hb3⟩;simp only at hb3;simp[h7,h31,h32,hb3]
   . have hcut:∀ (i:Nat) (x:It),L[i]?=some x->cut (L.flatMap qK) (i*12) 12=some (qK x):=fun i x hx=>qgQ yy L i x hx
     simp[hb];refine qv.listR L (fun d ev O=>ev 7=.ptr H1.length 0/\ev 30=.ms ob 0 L.length 12/\ev 31=I_ L.length/\ev 32=I_ d.length/\(∃ t,O=⟨H2++t,T2⟩)/\∀ y∈d,qgU y=false) ?_ ?_ ?_
     . exact⟨by simp,by simp,by simp,by simp,⟨[],by simp⟩,by simp⟩
     . rintro d x l' ev O R hR hd hx hlt ⟨h7,h30,h31,h32,⟨t,rfl⟩,hz⟩;have hxm:=qqW hx;have hxo:=hout x hxm;have hc1:=hcut d.length x hx;have hlt':(d.length:Int)<L.length:=(by omega);have hwr:IntKind.i64.wrap ((d.length:Int)+1)=d.length+1:=wr (by omega) (by omega);have hva:=QB x.expr hxo.wen (by have:=ZS x.expr;have:=hxo.size;omega);have hbx:qgU x=(YU x.kind&&!decide (qM x.expr=0)):=rfl;simp only[ql x,qa x.expr,qrd,qrh]at hc1;simp only[qa x.expr]at hva;have next:qgU x=false->∀ y,y∈d\/y=x->qgU y=false:=Wk hz;have bad:qgU x=true->r=2:=fun e=>by rw[hr,if_pos (qq2.2 ⟨x,hxm,e⟩)]
       by_cases k12:x.kind=1\/x.kind=2
       . have hb12:qgU x = !decide (qM x.expr=0):=(by rw[hbx];simp[YU,k12]);have kk:(x.kind==1)=true\/((x.kind==1)=false/\(x.kind==2)=true):=by
          rcases k12 with e|e
          . exact .inl (by simp[e])
          . exact .inr ⟨by simp[e],by simp[e]⟩
         have tail:∀ q:Bool,q=qgU x->(q=true->r=2)/\(q=false->∀ y,y∈d\/y=x->qgU y=false):=fun q e=>⟨fun e'=>bad (by rw[<- e,e']),fun e'=>next (by rw[<- e,e'])⟩
         rcases k12 with k1|k2
         . rw[k1]at hc1;simp[-cut,h30,h31,h32,hlt',qb hrow,hc1];simp;refine qd.call hva (by simp) ?_;by_cases hz0:qM x.expr=0
           . simp[hz0,h32,hwr];exact hR _ _ ⟨h7,h30,h31,by simp,⟨_,by simp;rfl⟩,fun y hy=>next (by rw[hb12,hz0];rfl) y (by simpa using hy)⟩
           . have e2:=bad (by rw[hb12];simp[hz0]);subst e2;rw[if_pos (by decide)]at hs;subst hs;simp[hz0]
         . rw[k2]at hc1;simp[-cut,h30,h31,h32,hlt',qb hrow,hc1];simp;refine qd.call hva (by simp) ?_;by_cases hz0:qM x.expr=0
           . simp[hz0,h32,hwr];exact hR _ _ ⟨h7,h30,h31,by simp,⟨_,by simp;rfl⟩,fun y hy=>next (by rw[hb12,hz0];rfl) y (by simpa using hy)⟩
           . have e2:=bad (by rw[hb12];simp[hz0]);subst e2;rw[if_pos (by decide)]at hs;subst hs;simp[hz0]
       . have hb12:qgU x=false:=(by rw[hbx];simp[YU,k12]);have k1:¬ x.kind=1:=fun e=>k12 (.inl e)
         have k2:¬ x.kind=2:=fun e=>k12 (.inr e)
         simp[-cut,h30,h31,h32,hlt',qb hrow,hc1];simp[h32,k1,k2,hwr];exact hR _ _ ⟨h7,h30,h31,by simp,⟨_,by simp;rfl⟩,fun y hy=>next hb12 y (by simpa using hy)⟩
     . rintro ev O ⟨h7,h30,h31,h32,⟨t,rfl⟩,hz⟩;have hno:¬ L.any qgU=true:=by
        rw[qq2];rintro⟨y,hy,e⟩;rw[hz y hy]at e;cases e
       rw[if_neg hno]at hr;subst hr;rw[if_neg (by decide)]at hs;subst hs;simp[h7,h31,h32,qb hb];have hfl:=Go.Abs.flat_len yy S;have hch:=Go.Abs.chunk_flat yy S [];rw[qrl]at hch;simp only[zh,ze,qb hrow,qsv,hch];rw[if_pos (by omega)];exact⟨by simp[zg],Leq.refl _⟩
 . rw[if_pos h0]at hr;subst hr;rw[if_pos h0]at hs;subst hs;simp[h0]
section
structure Named1 (x:It):Prop where
 dist:x.kind=3->js x.name=true
 solve:x.kind=6->∀ s∈x.before++x.after,js s=true
 before:x.before.length<=8
 after:x.after.length<=8
theorem Named1.subst {x:It}(h:Named1 x)(s:Str)(b:Ex):Named1 (qN s b x):=by
 refine⟨fun k=>?_,fun k=>?_,?_,?_⟩
 . rw[kz]at k;rw[Kw];exact h.dist k
 . rw[kz]at k;rw[wy,vh];exact h.solve k
 . rw[wy];exact h.before
 . rw[vh];exact h.after
theorem wE {F:yB}:∀ (h:Nat) (c:Option Ex) (x:It),(∀ y∈Zy x,Named1 y)->∀ z∈zC F h c x,Named1 z
 | 0,c,x,_,z,hz=>by simp[zC]at hz
 | h+1,c,x,hx,z,hz=>by
  have hself:x∈Zy x:=by rw[qX];simp
  have hi:∀ a∈x.items,∀ y∈Zy a,Named1 y:=fun a ha y hy=>hx y (by rw[qX];exact qrk _ (qrD _ (qV.2 ⟨a,ha,hy⟩)))
  have he:∀ a∈x.els,∀ y∈Zy a,Named1 y:=fun a ha y hy=>hx y (by rw[qX];exact qrk _ (qrK _ (qV.2 ⟨a,ha,hy⟩)))
  have h1:=hx x hself;simp only[zC]at hz;split at hz
  . rename_i k;simp only[qra,qru,or_false]at hz;subst hz;refine⟨fun k3=>?_,fun k6=>?_,by simp[Zt,It.before],by simp[Zt,It.after]⟩
    . have k3':x.kind=3:=k3;omega
    . have k6':x.kind=6:=k6;omega
  split at hz
  . rcases qre.1 hz with hz|hz
    . obtain⟨a,ha,hza⟩:=qrp.1 hz;exact wE h _ a (hi a ha) z hza
    . obtain⟨a,ha,hza⟩:=qrp.1 hz;exact wE h _ a (he a ha) z hza
  split at hz
  . obtain⟨k,_,hzk⟩:=qrp.1 hz;obtain⟨a,ha,hza⟩:=qrp.1 hzk;obtain⟨b,hb,rfl⟩:=qq3.1 ha;refine wE h c _ (fun y hy=>?_) z hza;rw[J3]at hy;obtain⟨w,hw,rfl⟩:=qq3.1 hy;exact (hi b hb w hw).subst _ _
  split at hz
  . rename_i k;simp only[qra,qru,or_false]at hz;subst hz;exact⟨fun _=>h1.dist k,fun k6=>by simp[It.kind]at k6,by simp[It.before],by simp[It.after]⟩
  split at hz
  . rename_i k;simp only[qra,qru,or_false]at hz;subst hz;exact⟨fun k3=>by simp[It.kind]at k3,fun _=>h1.solve k,h1.before,h1.after⟩
  . cases hz
theorem Q3 {s:Str}(h:js s=true):s.length<=19:=by
 unfold js at h;rcases Bool.or_eq_true_iff.1 h with h|h
 . have:=j7 h;omega
 . cases e:yb s with
   | none=>rw[e]at h;cases h
   | some p=>
    have:=jI.1 (show yb s=some (p.1,p.2) from e);rw[this.2.2,qdA];have:=j7 this.2.1;omega
theorem vP (V:List Var):∀ l:List Str,(zX V l).length<=l.length*8
 | []=>by simp[zX]
 | s::r=>by
  have h1:=ZR V s;have h2:=vP V r;unfold zX at h2 ⊢;rw[qrm,qqY,qq5];omega
section
variable {T0:List (Option Nat)}{B vb m:Nat}{c:Cls}{V:List Var}
theorem Yg (V:List Var)(x:It):(z5 V x).length<=8:=by
 unfold z5;split
 . have:=ZR V x.name;simpa using this
 . simp
theorem qae {V:List Var}{x:It}(h:Named1 x):(zE V x).length<=4096:=by
 unfold zE;split
 . have h1:=WK V (zX V x.before) (zX V x.after);have h2:=vP V x.before;have h3:=vP V x.after;have h4:=h.before;have h5:=h.after;have:(zX V x.after).length*(zX V x.before).length<=64*64:=qsw (by omega) (by omega);omega
 . simp
theorem add49 (x:It)(n:Nat)(ho:OutOk n x)(hn:Named1 x)(hV:∀ v∈V,js v.name=true)(hl:V.length<=1000)(H:List Blk)(T:List (Option Nat)){D:List Dist}{E:List (Int×Int)}{td:Nat}{R:List Rec}{clk:Nat}(hD:D.length+8<=1000000)(hE:E.length+4096<=1000000000)
 (h:BX T0 B vb m c V ⟨H,T⟩ D E td R clk):qq Zp GG 49 [.ptr B 0,.agg (qK x)] ⟨H,T⟩ (fun _ O'=>∃ td' R' clk',BX T0 B vb m c V O' (D++z5 V x) (E++zE V x) td' R' clk'/\Kp2 B m H O'.H):=by
 by_cases k3:x.kind=3
 . have e:zE V x=[]:=(by unfold zE;rw[if_neg (by omega)]);rw[e,qrl];exact qlE x k3 hV hl (by have:=Q3 (hn.dist k3);omega) ho.ws H T hD h
 by_cases k6:x.kind=6
 . have e:z5 V x=[]:=(by unfold z5;rw[if_neg k3]);rw[e,qrl];have h2:=vP V x.before;have h3:=vP V x.after;have h4:=hn.before;have h5:=hn.after;have h6:(zX V x.after).length*(zX V x.before).length<=64*64:=qsw (by omega) (by omega);have hs:=hn.solve k6;exact qiA x k6 hV hl (fun s hs'=>by have:=Q3 (hs s (by simp[hs']));omega) (fun s hs'=>by have:=Q3 (hs s (by simp[hs']));omega) (by omega) (by omega) H T (by omega) h (by omega) (by omega)
 . have e:zE V x=[]:=(by unfold zE;rw[if_neg k6]);have e2:z5 V x=[]:=(by unfold z5;rw[if_neg k3]);rw[e,e2,qrl,qrl];refine qq.kO ⟨false,qeF,[],[]⟩ qg Tryz.func49 rfl (by kernel_rfl) ?_;simp[ql x,qa x.expr,k3,k6];exact⟨⟨td,R,clk,h.ext _ qr6⟩,Kp2.app⟩
end
end
section
section
variable {B vb m:Nat}{c:Cls}{V:List Var}
theorem BX.rowlen {T0:List (Option Nat)}{O:St}{D:List Dist}{E:List (Int×Int)}{td:Nat}{R:List Rec}{clk:Nat}(h:BX T0 B vb m c V O D E td R clk)(hV:V≠[]){bx:Nat}{cs:List AV}(hx:O.H[bx]?=some (.cells cs))(hl:cs.length<4):vb≠bx:=by
 obtain⟨vv,dv,h1,h2,h3⟩:=h.cell;rintro rfl;have hr:=(h2.at hV).2;rw[hx]at hr;simp only[Option.some.injEq,Blk.cells.injEq]at hr;have:=Go.Abs.flat_len (en:=qo) (sz:=4) (fun x=>rfl) V;rw[<- hr]at this;have:0<V.length:=qrH.2 hV;omega
theorem BX.other {O:St}{td clk bx:Nat}(h:BX [] B vb m c V O [] [] td [] clk)(h1:bx≠B)(h2:bx≠m)(h3:V≠[]->vb≠bx)(y:Blk)(T':List (Option Nat)):BX [] B vb m c V ⟨O.H.set bx y,T'⟩ [] [] td [] clk:=by
 obtain⟨vv,dv,a1,a2,a3⟩:=h.cell;refine⟨⟨vv,dv,?_,a2.keep fun x hl hx=>?_,.inl ?_⟩,?_,AfterOk.nil,qtp⟩
 . show (O.H.set bx y)[B]?=_;rw[qqX h1];exact a1
 . rw[qqX (Ne.symm (h3 hl))];exact hx
 . rcases a3 with a3|⟨a,_⟩
   . exact a3
   . exact absurd rfl a
 . show (O.H.set bx y)[m]?=_;rw[qqX h2];exact h.map
def KpL (bs:List Nat)(H H':List Blk):Prop:=H.length<=H'.length/\∀ (k:Nat) (x:Blk),H[k]?=some x->k∉bs->H'[k]?=some x
theorem KpL.refl {bs:List Nat}{H:List Blk}:KpL bs H H:=⟨qrn _,fun _ _ h _=>h⟩
theorem KpL.trans {bs:List Nat}{H H' H'':List Blk}(h:KpL bs H H')(h':KpL bs H' H''):KpL bs H H'':=⟨qrN h.1 h'.1,fun k x hk h1=>h'.2 k x (h.2 k x hk h1) h1⟩
theorem KpL.app {bs:List Nat}{H t:List Blk}:KpL bs H (H++t):=⟨by simp,fun k x hk _=>qb hk t⟩
theorem KpL.set {bs:List Nat}{H:List Blk}{b:Nat}{y:Blk}(hb:b∈bs):KpL bs H (H.set b y):=⟨by simp,fun k x hk hn=>by
 rw[qqX (by rintro rfl;exact hn hb)];exact hk⟩
theorem KpL.of2 {bs:List Nat}{H H':List Blk}(h:Kp2 B m H H')(hB:B∈bs)(hm:m∈bs):KpL bs H H':=⟨h.1,fun k x hk hn=>h.2 k x hk (by rintro rfl;exact hn hB) (by rintro rfl;exact hn hm)⟩
structure FewN (l:List It):Prop where
 few:Few l
 lens:∀ y∈zA l,y.before.length<=8/\y.after.length<=8
theorem FewN.named {F:yB}{l:List It}(h:FewN l)(h0:qU F l=0):∀ y∈qQ F 6 none l,Named1 y:=by
 have hv:yf l=0:=by
  have hc:jJ F l=0:=by
   unfold qU at h0;split at h0
   . rename_i hn;exact absurd h0 hn
   . rename_i hn;exact qrF.1 hn
  unfold jJ at hc;split at hc
  . rename_i hn;exact absurd hc hn
  . rename_i hn;exact qrF.1 hn
 intro y hy;obtain⟨x,hx,hxy⟩:=qrp.1 hy;refine wE 6 none x (fun z hz=>?_) y hxy;have hzm:z∈zA l:=qV.2 ⟨x,hx,hz⟩;have hs:=h.few.sound hv hzm;have hl:=h.lens z hzm;exact⟨hs.dist,hs.solve,hl.1,hl.2⟩
theorem yX {F:yB}{l:List It}(h0:qU F l=0):(qQ F 6 none l).length<=400/\kH F l=qQ F 6 none l/\∀ y∈qQ F 6 none l,qgU y=false:=by
 refine⟨?_,by unfold kH;rw[if_neg (by simp[h0])],?_⟩
 . unfold qU at h0;split at h0
   . rename_i hn;exact absurd h0 hn
   split at h0
   . cases h0
   . omega
 . intro y hy
   cases e:qgU y with
   | false=>rfl
   | true=>
    unfold qU at h0;split at h0
    . rename_i hn;exact absurd h0 hn
    split at h0
    . cases h0
    split at h0
    . cases h0
    . rename_i hn;exact absurd (qq2.2 ⟨y,hy,e⟩) hn
theorem qnH (hc:ClsOk c)(hV:∀ v∈V,js v.name=true)(hl:V.length<=1000)(ls:List (List It))(hls:ls.length<=100)(hfw:∀ l∈ls,FewN l)(H:List Blk)(T:List (Option Nat))(bl bc bx bp clk td:Nat)
 (e1:H[bl]?=some (.cells [.sl 1 (ls.map ZE) .none])) (e2:H[bc]?=some (.cells (qn c))) (e3:H[bx]?=some (.cells [.sl 0 [] .nil])) (e4:H[bp]?=some (.cells [.ptr B 0]))
 (n1:bl∉[B,m,bx]) (n2:bc∉[B,m,bx]) (n4:bp∉[B,m,bx]) (hxB:bx≠B) (hxm:bx≠m) (h:BX [] B vb m c V ⟨H,T⟩ [] [] td [] clk) :
 qq Zp GG 47 [.ptr bl 0,.ptr bc 0,.ptr bx 0,.ptr bp 0] ⟨H,T⟩ (fun r O'=>r=I_ (qh (qU (qc c)) ls)/\KpL [B,m,bx] H O'.H/\(qh (qU (qc c)) ls=0 ->
  ∃ td' R' clk' sz tok,BX [] B vb m c V O' ((qi (qc c) ls).flatMap (z5 V)) ((qi (qc c) ls).flatMap (zE V)) td' R' clk'/\O'.H[bx]?=some (.cells [.sl sz ((qi (qc c) ls).map qK) tok])/\(sz=12\/qi (qc c) ls=[]))):=by
 refine qq.k qg Tryz.func47 rfl (by kernel_rfl) ?_;have hF:∀ f∈c.fields,f.size<=1000:=fun f hf=>by have:=(zk (hc.fields f hf)).s8;omega
 have hcf:c.fields.length<=1000:=by have:=hc.nf;omega
 have hex:∀ d,qi (qc c) d=d.flatMap (qQ (qc c) 6 none):=fun d=>rfl
 simp only[qn]at e2;simp[-getElem?_pos,e1];refine qv.listR ls (fun d ev O=>ev 1=.ptr bc 0/\ev 2=.ptr bx 0/\ev 3=.ptr bp 0/\ev 11=.sl 1 (ls.map ZE) .none/\ev 12=I_ ls.length/\ev 13=I_ d.length/\KpL [B,m,bx] H O.H/\BX [] B vb m c V O [] [] td [] clk/\(∀ l∈d,qU (qc c) l=0)/\(qi (qc c) d).length<=d.length*400 /\
  ∃ vx,O.H[bx]?=some (.cells [vx])/\yc 0 12 qK O.T vx (qi (qc c) d)) ?_ ?_ ?_
 . exact⟨by simp,by simp,by simp,by simp,by simp,by simp,KpL.refl,h,by simp,by simp[hex],_,e3,by simpa[hex] using yc.nil⟩
 . rintro d l r ev ⟨H1,T1⟩ Rl hRl hd hx hlt ⟨h1,h2,h3,h11,h12,h13,hkp,hB,hz,hln,vx,hvx,hout⟩;have hlm:=qqW hx;have hf:=hfw l hlm;have hxp:=qnG l c hf.few hcf hF;have hc2:=hkp.2 _ _ e2 n2;have hdl:d.length<=100:=(by omega);simp only[qn]at hxp;simp[-getElem?_pos,h1,h11,h12,h13,hlt,hx,ZE,hc2];refine qd.call hxp (by simp) ?_;by_cases h0:qU (qc c) l=0
   . obtain⟨q1,q2,q3⟩:=yX h0;rw[q2];obtain⟨v',T2,happ,ho2,hT2⟩:=yc.append (T0:=[]) (sz:=12) (en:=qK) (T:=T1) (v:=vx) (l:=qi (qc c) d) (m:=qQ (qc c) 6 none l) (tok:=.none) (by simpa using hout) qtp D24 rfl D68 rfl (by omega) rfl (by decide) (by omega) 12 (.inl rfl);have hac:=ho2.acells;have hes:qi (qc c) (d++[l])=qi (qc c) d++qQ (qc c) 6 none l:=(by simp[hex]);generalize qQ (qc c) 6 none l=M at *;simp[-getElem?_pos,h0,h2,h13,hvx,happ,hac];refine hRl _ _ ⟨h1,h2,h3,h11,h12,by simp;exact wr (by omega) (by omega),hkp.trans (KpL.set (by simp)),hB.other hxB hxm (fun hVn=>hB.rowlen hVn hvx (by simp)) _ _,?_,?_,v',?_,?_⟩
     . intro y hy;rcases qre.1 hy with hy|hy
       . exact hz y hy
       . simp at hy;subst hy;exact h0
     . rw[hes,qqY,qqY,qq8];omega
     . show (H1.set bx _)[bx]?=_;rw[qq4 (qqV.1 hvx).1]
     . rw[hes];simpa using ho2
   . have e:qh (qU (qc c)) ls=qU (qc c) l:=(by rw[hd];exact ja hz h0);rw[e];simp[-getElem?_pos,h0];exact hkp
 . rintro ev ⟨H1,T1⟩ ⟨h1,h2,h3,h11,h12,h13,hkp,hB,hz,hln,vx,hvx,hout⟩;have hfz:qh (qU (qc c)) ls=0:=qr.2 hz;have hXo:∀ y∈qi (qc c) ls,OutOk 7014 y/\Named1 y:=fun y hy=>by
    obtain⟨l,hlm,hyl⟩:=qrp.1 (show y∈ls.flatMap (qQ (qc c) 6 none) from hy);exact⟨Qm (hfw l hlm).few y hyl,(hfw l hlm).named (hz l hlm) y hyl⟩
   have hp2:=hkp.2 _ _ e4 n4;rw[hfz];generalize qi (qc c) ls=X at *;have hXl:X.length<=40000:=(by omega);obtain⟨sz,tok,rfl,hsz⟩:∃ sz tok,vx=.sl sz (X.map qK) tok/\(sz=12\/X=[]):=by
    rcases hout with ⟨rfl,rfl⟩|⟨_,t,_,rfl,_⟩
    . exact⟨0,.nil,rfl,.inr rfl⟩
    . exact⟨12,_,rfl,.inl rfl⟩
   simp[-getElem?_pos,h2,h12,h13,hvx];refine qv.listR X (fun d ev O=>ev 3=.ptr bp 0/\ev 30=.sl sz (X.map qK) tok/\ev 31=I_ X.length/\ev 32=I_ d.length/\KpL [B,m] H1 O.H/\(d.flatMap (z5 V)).length<=d.length*8/\(d.flatMap (zE V)).length<=d.length*4096/\∃ td' R' clk',BX [] B vb m c V O (d.flatMap (z5 V)) (d.flatMap (zE V)) td' R' clk') ?_ ?_ ?_
   . exact⟨h3,by simp,by simp,by simp,KpL.refl,by simp,by simp,td,[],clk,by simpa using hB⟩
   . clear h1 h2 h3 h11 h12 h13 hB hout;rintro d x r ev ⟨H2,T2⟩ Rl hRl hd hx hlt ⟨h3,h30,h31,h32,hk2,hl1,hl2,td2,R2,clk2,hB2⟩;have hs2:sz=12:=hsz.resolve_right (by rintro rfl;simp at hlt);subst hs2;obtain⟨ho,hnm⟩:=hXo x (qqW hx);have hp3:=hk2.2 _ _ hp2 (by simp at n4 ⊢;exact⟨n4.1,n4.2.1⟩);have ha:=add49 x 7014 ho hnm hV hl (H2++[.cells (qK x)]) T2 (by omega) (by omega) (hB2.ext [.cells (qK x)] qr6);have hd1:=Yg V x;have hd2:=qae (V:=V) hnm;simp only[ql x,qa x.expr,qrd,qrh]at ha;simp[-getElem?_pos,h3,h30,h31,h32,hlt,hx,ql x,qa x.expr,qb hp3];refine qd.acall ha ?_;rintro v ⟨H3,T3⟩ ⟨td3,R3,clk3,hB3,hk3⟩;simp[-getElem?_pos,h32];refine hRl _ _ ⟨h3,h30,h31,by simp;exact wr (by omega) (by omega),hk2.trans (KpL.app.trans (KpL.of2 hk3 (by simp) (by simp))),?_,?_,td3,R3,clk3,?_⟩
     . simp only[qsG,qqY,qrm,qs2,qrl,qq5,qrt];omega
     . simp only[qsG,qqY,qrm,qs2,qrl,qq5,qrt];omega
     . simpa using hB3
   . clear h1 h2 h3 h11 h12 h13 hB hout;rintro ev ⟨H2,T2⟩ ⟨h3,h30,h31,h32,hk2,hl1,hl2,td2,R2,clk2,hB2⟩;simp[-getElem?_pos,h31,h32];have hk2':KpL [B,m,bx] H1 H2:=⟨hk2.1,fun k x hk hn=>hk2.2 k x hk (by simp at hn ⊢;exact⟨hn.1,hn.2.1⟩)⟩;exact⟨hkp.trans hk2',⟨td2,R2,clk2,hB2⟩,sz,⟨tok,hk2.2 _ _ hvx (by simp;exact⟨hxB,hxm⟩)⟩,hsz⟩
end
end
section
attribute [local simp] acells fin zh ze pl1 plain pl2 AV.atom
structure LRec where
 key:Int
 val:Int
 stamp:Nat
def wb (r:LRec):AV×AV×Nat:=(.int .i64 r.key,.int .i64 r.val,r.stamp)
structure LvOk (L:List LRec)(clk:Nat):Prop where
 keys:(L.map LRec.key).Nodup
 stamps:(L.map LRec.stamp).Nodup
 lt:∀ r∈L,r.stamp<clk
def Zq (L:List LRec)(i:Int):Option Int:=(L.find? fun r=>r.key==i).map LRec.val
theorem LvOk.nil {clk:Nat}:LvOk [] clk:=⟨by simp,by simp,by simp⟩
theorem J5 {i:Int}:∀ (L:List LRec) (s:Nat),(∀ r∈L,r.key≠i)->wo (.int .i64 i) (L.map wb) s=some none
 | [],s,_=>rfl
 | r::l,s,h=>by
  have h0:(i==r.key)=false:=by have:=h r (by simp);simpa using fun e:i=r.key=>this e.symm
  have ih:=J5 (i:=i) l (s+1) fun x hx=>h x (by simp[hx])
  simp only[qqZ,wb,wo,Qv,if_true,h0];exact ih
theorem J4 {i:Int}:∀ (L:List LRec) (s:Nat),(L.map LRec.key).Nodup->∀ r∈L,r.key=i->∃ j,wo (.int .i64 i) (L.map wb) s=some (some (s+j,.int .i64 r.val))/\L[j]?=some r
 | [],s,_,r,h,_=>by cases h
 | a::l,s,hn,r,h,e=>by
  simp only[qqZ,qr4]at hn;rcases qra.1 h with rfl|h
  . refine⟨0,?_,by simp⟩;have h0:(i==r.key)=true:=(by simp[e]);simp only[qqZ,wb,wo,Qv,if_true,h0,qsz]
  . have hne:¬ i=a.key:=fun h2=>hn.1 (qq3.2 ⟨r,h,by rw[e,h2]⟩)
    have h0:(i==a.key)=false:=(by simpa using hne);obtain⟨j,h1,h2⟩:=J4 l (s+1) hn.2 r h e;refine⟨j+1,?_,by simpa using h2⟩;simp only[qqZ,wb,wo,Qv,if_true,h0];rw[show s+(j+1)=s+1+j by omega];exact h1
theorem Q4 {L:List LRec}(h:(L.map LRec.key).Nodup){r:LRec}(hr:r∈L):Zq L r.key=some r.val:=by
 unfold Zq
 induction L with
 | nil=>cases hr
 | cons a l ih=>
  simp only[qqZ,qr4]at h;rcases qra.1 hr with rfl|hr
  . simp
  . have hne:¬ a.key=r.key:=fun e=>h.1 (by rw[e];exact qq3.2 ⟨r,hr,rfl⟩)
    have:(a.key==r.key)=false:=by simpa using hne
    rw[qtn,this];exact ih h.2 hr
theorem qb8 {L:List LRec}{i:Int}(h:∀ r∈L,r.key≠i):Zq L i=none:=by
 unfold Zq;rw[qtX,qsT];intro r hr;simpa using h r hr
theorem qb7 {L:List LRec}{i n:Int}(h:Zq L i=some n):∃ r∈L,r.key=i/\r.val=n:=by
 unfold Zq at h;obtain⟨r,hr,rfl⟩:=qq0.1 h;exact⟨r,qrW hr,by simpa using List.find?_some hr,rfl⟩
theorem LvOk.look {D:Nat->Option TI}{L:List LRec}{clk:Nat}(h:LvOk L clk)(hD162:∃ x,D 162=some x/\x.d=.map 3 3)(hD3:∃ x,D 3=some x/\x.d=.int .i64/\x.zv=.int .i64 0){H:List Blk}{T:List (Option Nat)}{b:Nat}(hb:H[b]?=some (.map (L.map wb) clk))(i:Int)(ok:Bool) :
 yj D ⟨H,T⟩ 162 (.map b) (.int .i64 i) ok=some (if ok=true then .tup [.int .i64 ((Zq L i).getD 0),.bool (Zq L i).isSome] else .int .i64 ((Zq L i).getD 0)):=by
 obtain⟨x162,e162,d162⟩:=hD162;obtain⟨x3,e3,d3,z3⟩:=hD3;by_cases hk:i∈L.map LRec.key
 . obtain⟨r,hr,rfl⟩:=qq3.1 hk;obtain⟨j,hf,hj⟩:=J4 L 0 h.keys r hr rfl;rw[Q4 h.keys hr];simp only[yj,e162,d162,jc,e3,d3,hb,hf];cases ok<;>simp
 . have hn:∀ r∈L,r.key≠i:=fun r hr e=>hk (qq3.2 ⟨r,hr,e⟩)
   rw[qb8 hn];simp only[yj,e162,d162,jc,e3,d3,hb,J5 L 0 hn,qg3,z3];cases ok<;>simp
theorem LvOk.upd {D:Nat->Option TI}{L:List LRec}{clk:Nat}(h:LvOk L clk)(hD162:∃ x,D 162=some x/\x.d=.map 3 3)(hD3:∃ x,D 3=some x/\x.d=.int .i64/\x.zv=.int .i64 0)(i n:Int) :
 ∃ L' clk',(∀ (H:List Blk) (T:List (Option Nat)) (b:Nat),H[b]?=some (.map (L.map wb) clk)->zQ D ⟨H,T⟩ 162 (.map b) (.int .i64 i) (.int .i64 n)=some ⟨H.set b (.map (L'.map wb) clk'),T⟩)/\LvOk L' clk' /\
  (∀ j,Zq L' j=if j=i then some n else Zq L j):=by
 obtain⟨x162,e162,d162⟩:=hD162;obtain⟨x3,e3,d3,z3⟩:=hD3;by_cases hk:i∈L.map LRec.key
 . obtain⟨r,hr,rfl⟩:=qq3.1 hk;obtain⟨j,hf,hj⟩:=J4 L 0 h.keys r hr rfl;rw[qsh]at hf;obtain⟨hjl,hjr⟩:=qqV.1 hj;have hks:(L.set j ⟨r.key,n,r.stamp⟩).map LRec.key=L.map LRec.key:=by
    rw[qtm];apply qr1;intro q;rw[qr8];split
    . rename_i e;subst e;simp[hjl,hjr]
    . rfl
   have hss:(L.set j ⟨r.key,n,r.stamp⟩).map LRec.stamp=L.map LRec.stamp:=by
    rw[qtm];apply qr1;intro q;rw[qr8];split
    . rename_i e;subst e;simp[hjl,hjr]
    . rfl
   have hok:LvOk (L.set j ⟨r.key,n,r.stamp⟩) clk:=⟨by rw[hks];exact h.keys,by rw[hss];exact h.stamps,fun q hq=>by
    rcases qsj hq with hq|rfl
    . exact h.lt q hq
    . exact h.lt r hr⟩
   refine⟨L.set j ⟨r.key,n,r.stamp⟩,clk,?_,hok,fun q=>?_⟩
   . intro H T b hb;simp only[zQ,e162,d162,jc,e3,d3,hb,hf];simp only[qtv,if_true,Option.some.injEq,St.mk.injEq,and_true];congr 1;congr 1;apply qr1;intro q;rw[qtk,qrw,qrw,qr8];by_cases hq:j=q
     . subst hq;simp[hjr,hj,hjl,wb]
     . simp[hq]
   . by_cases e:q=r.key
     . subst e;rw[if_pos rfl];have hm:(⟨r.key,n,r.stamp⟩:LRec)∈L.set j ⟨r.key,n,r.stamp⟩:=qsY.2 ⟨j,by rw[qq4 hjl]⟩;exact Q4 hok.keys hm
     . rw[if_neg e]
       cases hv:Zq L q with
       | none=>
        refine qb8 fun a ha e2=>?_
        have:q∈(L.set j ⟨r.key,n,r.stamp⟩).map LRec.key:=qq3.2 ⟨a,ha,e2⟩;rw[hks]at this;obtain⟨a',ha',e3⟩:=qq3.1 this;rw[<- e3,Q4 h.keys ha']at hv;cases hv
       | some z=>
        obtain⟨a,ha,rfl,rfl⟩:=qb7 hv;have:a∈L.set j ⟨r.key,n,r.stamp⟩:=by
         obtain⟨q,hq⟩:=qsY.1 ha;refine qsY.2 ⟨q,?_⟩;have hqj:j≠q:=by
          rintro rfl;rw[hj]at hq;cases hq;exact e rfl
         rw[qqX hqj];exact hq
        exact Q4 hok.keys this
 . have hn:∀ r∈L,r.key≠i:=fun r hr e=>hk (qq3.2 ⟨r,hr,e⟩)
   have hok:LvOk (L++[⟨i,n,clk⟩]) (clk+1):=by
    refine⟨?_,?_,?_⟩
    . rw[qrf,qsc];refine⟨h.keys,by simp,?_⟩;rintro a ha b hb rfl;simp at hb;exact hk (by rw[<- hb];exact ha)
    . rw[qrf,qsc];refine⟨h.stamps,by simp,?_⟩;rintro a ha b hb rfl;simp at hb;obtain⟨r,hr,rfl⟩:=qq3.1 ha;have:=h.lt r hr;omega
    . intro r hr;rcases qre.1 hr with hr|hr
      . have:=h.lt r hr;omega
      . simp at hr;subst hr;simp
   refine⟨L++[⟨i,n,clk⟩],clk+1,?_,hok,fun q=>?_⟩
   . intro H T b hb;simp only[zQ,e162,d162,jc,e3,d3,hb,J5 L 0 hn];simp[wb]
   . by_cases e:q=i
     . subst e;rw[if_pos rfl];exact Q4 (r:=⟨q,n,clk⟩) hok.keys (by simp)
     . rw[if_neg e];unfold Zq;rw[qte];have hb:(i==q)=false:=(by simpa using fun h=>e h.symm);cases L.find? (fun r=>r.key==q)<;>simp[hb]
end
section
theorem KpL.setF {H H':List Blk}{b:Nat}{y:Blk}(h:KpL [] H H')(hb:H.length<=b):KpL [] H (H'.set b y):=⟨by rw[qsk];exact h.1,fun k x hk hn=>by
 have:=(qqV.1 hk).1;rw[qqX (by omega)];exact h.2 k x hk hn⟩
theorem qaa {α:Type}{f:α->Nat}:∀ (l:List α) (e:α),(l.map f).Nodup->e∈l->(l.filter fun x=>!(f x==f e)).length+1=l.length
 | [],e,_,he=>by cases he
 | a::l,e,hn,he=>by
  simp only[qqZ,qr4]at hn;rcases qra.1 he with rfl|he
  . have:l.filter (fun x=>!(f x==f e))=l:=qsQ.2 fun x hx=>by
     have:f x≠f e:=fun h=>hn.1 (by rw[<- h];exact qq3.2 ⟨x,hx,rfl⟩)
     simpa using this
    simp[this]
  . have h1:f a≠f e:=fun h=>hn.1 (by rw[h];exact qq3.2 ⟨e,he,rfl⟩)
    have:=qaa l e hn.2 he;simp[h1];simpa using this
theorem qbb {es:List (AV×AV×Nat)}{seen:List Nat}{e:AV×AV×Nat}(hst:(es.map (·.2.2)).Nodup)(he:e∈wk es seen):(wk es (seen++[e.2.2])).length+1=(wk es seen).length:=by
 have h:wk es (seen++[e.2.2])=(wk es seen).filter fun x=>!(x.2.2==e.2.2):=by
  unfold wk;rw[List.filter_filter];apply List.filter_congr;intro x _;by_cases q:x.2.2=e.2.2<;>simp[q]
 rw[h];refine qaa (f:=fun x:AV×AV×Nat=>x.2.2) _ e ?_ he;exact List.Nodup.sublist (List.Sublist.map _ List.filter_sublist) hst
theorem Jd {E:List (Int×Int)}{i k:Int}(h:k∈kV E i):(i,k)∈E:=by
 unfold kV at h;obtain⟨e,he,rfl⟩:=qq3.1 h;obtain⟨h1,h2⟩:=qrz.1 he;have:e.1=i:=by simpa using h2
 subst this;exact h1
theorem Jx {E:List (Int×Int)}{e:Int×Int}(h:e∈E):e.2∈kV E e.1:=qq3.2 ⟨e,qrz.2 ⟨h,by simp⟩,rfl⟩
theorem qbh {E:List (Int×Int)}{e:Int×Int}(h:e∈E):yP E e.1=true/\yP E e.2=true:=⟨qq2.2 ⟨e,h,by simp⟩,qq2.2 ⟨e,h,by simp⟩⟩
theorem qeA {E:List (Int×Int)}{R:List Rec}:(R.map (vA E)).map (·.2.2)=R.map Rec.stamp:=by rw[qr2];rfl
theorem qcL {L:List LRec}:(L.map wb).map (·.2.2)=L.map LRec.stamp:=by rw[qr2];rfl
theorem qcl {R:List Rec}{seen:List Nat}{r r':Rec}(hn:(R.map Rec.stamp).Nodup)(hr:r∈R)(hr':r'∈R)(h:r'.stamp∈seen++[r.stamp]):r'.stamp∈seen\/r'=r:=by
 rcases qre.1 h with h|h
 . exact .inl h
 . simp at h;obtain⟨i,hi⟩:=qr3 hr;obtain⟨j,hj⟩:=qr3 hr';have:=Ju hn hi hj h.symm;subst this;rw[hi]at hj;cases hj;exact .inr rfl
def lvF (L:List LRec)(i:Int):Int:=(Zq L i).getD 0
theorem qas:∃ x,Dof Zp 162=some x/\x.d=.map 3 3:=⟨_,D162,rfl⟩
theorem D3x2:∃ x,Dof Zp 3=some x/\x.d=.int .i64/\x.zv=.int .i64 0:=⟨_,D3,rfl,rfl⟩
section
variable {T0:List (Option Nat)}{B vb m:Nat}{c:Cls}{V:List Var}
theorem qkk (hl:V.length<=1000){D:List Dist}{E:List (Int×Int)}{td:Nat}{R:List Rec}{clk:Nat}(hE:E.length<=1000000000)(hb:Below E V.length)(H:List Blk)(T:List (Option Nat))(h:BX T0 B vb m c V ⟨H,T⟩ D E td R clk) :
 qq Zp GG 113 [.ptr B 0] ⟨H,T⟩ (fun r O'=>O'.T=T/\KpL [] H O'.H/\(if acyc E V.length=true then ∃ b L clk',r=.tup [.map b,.bool true]/\H.length<=b/\O'.H[b]?=some (.map (L.map wb) clk')/\LvOk L clk'/\∀ i,Zq L i=if yP E i=true then some (qJ E V.length i:Int) else none
  else r=.tup [.nilm,.bool false])):=by
 refine qq.k qg Tryz.func113 rfl (by kernel_rfl) ?_;obtain⟨vv,dv,hc,hvv,hdv⟩:=h.cell;have hm:=h.map;have hstm:((R.map (vA E)).map (·.2.2)).Nodup:=by rw[qeA];exact h.after.stamps
 have hltm:∀ e∈R.map (vA E),e.2.2<clk:=fun e he=>by
  obtain⟨r,hr,rfl⟩:=qq3.1 he;exact h.after.lt r hr
 simp only at hc hm hvv;have hRN:R.length<=V.length:=by
  have:=Qg V.length (R.map Rec.key) h.after.keys fun x hx=>by
   have:=(h.after.cover x).2 hx;obtain⟨k,hk⟩:=qtI _ this;exact (hb _ (Jd hk)).1
  simpa using this
 simp[-getElem?_pos,qb hc,qb hm];refine qv.gen (fun n ev O=>ev 0=.ptr B 0/\ev 4=.map H.length/\ev 19=.iter (H.length+1)/\O.T=T/\KpL [] H O.H/\∃ seen L clk',n=(wk (R.map (vA E)) seen).length/\O.H[H.length+1]?=some (.miter (some m) clk seen clk)/\O.H[H.length]?=some (.map (L.map wb) clk')/\LvOk L clk' /\
  (∀ i v,Zq L i=some v->v=0/\yP E i=true)/\∀ r∈R,r.stamp∈seen->(Zq L r.key).isSome=true/\∀ k∈kV E r.key,(Zq L k).isSome=true) (wk (R.map (vA E)) []).length ?_ ?_
 . exact⟨by simp,by simp,by simp,rfl,KpL.app,[],[],0,rfl,by simp,by simp,LvOk.nil,by simp[Zq],by simp⟩
 . rintro n ev ⟨H1,T1⟩ Rl hRl ⟨h0,h4,h19,hT,hkp,seen,L,clk1,rfl,hit,hlv,hok,hz,hdn⟩;obtain rfl:T=T1:=hT.symm;have hc1:=hkp.2 _ _ hc (by simp);have hm1:=hkp.2 _ _ hm (by simp);simp only at hit hlv hkp hc1 hm1;have hnx:=KX (T:=T) hit hm1 hltm;simp[-getElem?_pos,h19,hnx];refine qkr fun v τ hv=>?_
   rcases qre.1 hv with hv|hv
   . split at hv
     case isFalse=>cases hv
     rename_i hle;have hall:=qa9 (es:=R.map (vA E)) (seen:=seen) (by rw[hle];rfl);simp at hv;obtain⟨rfl,rfl⟩:=hv;have hac:=hvv.acells;have hlen:kw (Dof Zp) ⟨H1,T⟩ 31 vv=some (.int .i64 V.length):=by
      rcases hvv with ⟨rfl,rfl⟩|⟨_,rfl,_⟩<;>simp
     have hwr:IntKind.i64.wrap ((V.length:Int)+1)=V.length+1:=wr (by omega) (by omega);have hsome:∀ i,(Zq L i).isSome=yP E i:=fun i=>by
      cases hi:Zq L i with
      | some v=>rw[(hz i v hi).2];rfl
      | none=>
       cases hr:yP E i with
       | false=>rfl
       | true=>
        exfalso;obtain⟨e,he,h1⟩:=qq2.1 hr;obtain⟨r,hr,hre⟩:=qq3.1 ((h.after.cover e.1).1 (List.ne_nil_of_mem (Jx he)));obtain⟨g1,g2⟩:=hdn r hr (hall _ (qq3.2 ⟨r,hr,rfl⟩));rw[hre]at g1 g2;have h3:=g2 e.2 (Jx he);rw[qrV,beq_iff_eq,beq_iff_eq]at h1;rcases h1 with rfl|rfl
        . rw[hi]at g1;cases g1
        . rw[hi]at h3;cases h3
     have hzero:lvF L=fun _=>0:=by
      funext i;unfold lvF
      cases hi:Zq L i with
      | none=>rfl
      | some v=>rw[(hz i v hi).1];rfl
     simp[-getElem?_pos,-kw,h0,hc1,hlen,hwr];refine qv.count (V.length+1) (fun r ev O=>ev 0=.ptr B 0/\ev 4=.map H.length/\ev 42=.int .i64 (V.length+1)/\ev 43=.int .i64 r/\O.T=T/\KpL [] H O.H/\∃ L clk',O.H[H.length]?=some (.map (L.map wb) clk')/\LvOk L clk'/\(∀ i,(Zq L i).isSome=yP E i)/\Rnd E V.length r (lvF L)/\(∀ i,lvF L i<=r*1001000000000)/\(V.length<r->acyc E V.length=false)) ?_ ?_ ?_
     . exact⟨h0,h4,by simp,by simp,rfl,hkp,L,clk1,hlv,hok,hsome,by rw[hzero];exact Rnd.init _,fun i=>by rw[hzero];simp,fun h=>by omega⟩
     . clear h0 h4 h19 hkp hit hlv hc1 hm1 hok hz hdn hnx hall hle hsome hzero hlen hac;rintro rn ev ⟨H2,T2⟩ hrn ⟨h0,h4,h42,h43,hT,hkp,L,clk1,hlv,hok,hsome,hrd,hbd,hlast⟩;obtain rfl:T=T2:=hT.symm;have hc1:=hkp.2 _ _ hc (by simp);have hm1:=hkp.2 _ _ hm (by simp);simp only at hlv hkp hc1 hm1;have hrlt:(rn:Int)<V.length+1:=(by omega);simp[-getElem?_pos,h0,h42,h43,hc1,hm1,hrlt];have hrn1:rn<=1000:=(by omega);have hwr1:=wq (n:=rn) (by omega);have hH2:H.length<H2.length:=(qqV.1 hlv).1;have hmH:m<H.length:=(qqV.1 hm).1;refine qv.gen (fun n ev O=>ev 0=.ptr B 0/\ev 4=.map H.length/\ev 42=.int .i64 (V.length+1)/\ev 43=.int .i64 rn/\ev 49=.iter H2.length/\O.T=T/\KpL [] H O.H/\∃ seen L clk' ch,n=(wk (R.map (vA E)) seen).length/\ev 9=.bool ch/\O.H[H2.length]?=some (.miter (some m) clk seen clk)/\O.H[H.length]?=some (.map (L.map wb) clk')/\LvOk L clk'/\(∀ i,(Zq L i).isSome=yP E i) /\
        Mid E V.length rn (fun _=>0) (fun e=>∃ q∈R,q.key=e.1/\q.stamp∈seen) (lvF L) ch/\seen.length+(wk (R.map (vA E)) seen).length=R.length/\(∀ i,lvF L i<=rn*1001000000000+seen.length*1000000000)) (wk (R.map (vA E)) []).length ?_ ?_
       . refine⟨h0,h4,h42,h43,by simp,rfl,hkp.trans KpL.app,[],L,clk1,false,rfl,by simp,by simp,qb hlv _,hok,hsome,?_,?_,fun i=>by simpa using hbd i⟩
         . refine⟨hrd,fun e _ hd=>?_,fun _ e _ hd=>?_,fun _ _=>rfl⟩
           . obtain⟨q,_,_,hq⟩:=hd;cases hq
           . obtain⟨q,_,_,hq⟩:=hd;cases hq
         . rw[show wk (R.map (vA E)) []=R.map (vA E) from qsQ.2 fun _ _=>rfl];simp
       . clear h0 h4 h42 h43 hkp hlv hc1 hm1 hok hsome hrd hbd;rintro n ev ⟨H3,T3⟩ Rl3 hRl3 ⟨h0,h4,h42,h43,h49,hT,hkp,seen,L,clk1,ch,rfl,h9,hit,hlv,hok,hsome,hmid,hsl,hbd⟩;obtain rfl:T=T3:=hT.symm;have hc1:=hkp.2 _ _ hc (by simp);have hm1:=hkp.2 _ _ hm (by simp);simp only at hlv hit hkp hc1 hm1;have hnx:=KX (T:=T) hit hm1 hltm;simp[-getElem?_pos,h49,hnx];refine qkr fun v τ hv=>?_
         rcases qre.1 hv with hv|hv
         . split at hv
           case isFalse=>cases hv
           rename_i hle;have hall:=qa9 (es:=R.map (vA E)) (seen:=seen) (by rw[hle];rfl);simp at hv;obtain⟨rfl,rfl⟩:=hv;have hdall:∀ e∈E,∃ q∈R,q.key=e.1/\q.stamp∈seen:=fun e he=>by
            obtain⟨q,hq,hqe⟩:=qq3.1 ((h.after.cover e.1).1 (List.ne_nil_of_mem (Jx he)));exact⟨q,hq,hqe,hall _ (qq3.2 ⟨q,hq,rfl⟩)⟩
           cases ch with
           | false=>
            obtain⟨ha,hva⟩:=hmid.done hdall hb;simp[-getElem?_pos,h4,h9];refine⟨hkp,ha,L,clk1,hlv,hok,fun i=>?_⟩;have h1:=hsome i;have h2:=hva i;unfold lvF at h2
            cases hvl:Zq L i with
            | none=>rw[hvl]at h1;rw[if_neg (by rw[<- h1];simp)]
            | some v=>rw[hvl]at h1 h2;rw[if_pos (by rw[<- h1];rfl),<- h2];rfl
           | true=>
            simp[-getElem?_pos,h0,h4,h42,h43,h9];refine⟨wr (by omega) (by omega),hkp,L,clk1,hlv,hok,hsome,hmid.next hdall,fun i=>?_,fun hl=>hmid.cyc (by omega)⟩;have:=hbd i;omega
         . obtain⟨e,he,hve⟩:=qq3.1 hv;obtain⟨hem,hns⟩:=qba he;obtain⟨r,hr,rfl⟩:=qq3.1 hem;cases hve;have hitn:H2.length<H3.length:=(qqV.1 hit).1;have hen:=WI (H:=H3.set H2.length (.miter (some m) clk (seen++[(vA E r).2.2]) clk)) (T:=T) (by rw[qq4 hitn]) (by rw[qqX (by omega)];exact hm1) hem hstm;have hlv1:(H3.set H2.length (.miter (some m) clk (seen++[(vA E r).2.2]) clk))[H.length]?=some (.map (L.map wb) clk1):=by
            rw[qqX (by omega)];exact hlv
           simp only[vA]at hen hlv1 ⊢;have hlen0:=qbb hstm he;have hsl0:(kV E r.key).length<=1000000000:=qrN (Ku E r.key) hE;simp[-getElem?_pos,h49,hen];generalize hsc:kV E r.key=sc at *;refine qv.listR sc (fun d ev O=>ev 0=.ptr B 0/\ev 4=.map H.length/\ev 42=.int .i64 (V.length+1)/\ev 43=.int .i64 rn/\ev 49=.iter H2.length/\ev 10=.int .i64 r.key/\ev 55=.sl 1 (sc.map qY) (.chain r.tok sc.length)/\ev 56=.int .i64 sc.length/\ev 57=.int .i64 d.length/\O.T=T/\KpL [] H O.H/\O.H[H2.length]?=some (.miter (some m) clk (seen++[r.stamp]) clk) /\
            ∃ L clk' ch,ev 9=.bool ch/\O.H[H.length]?=some (.map (L.map wb) clk')/\LvOk L clk'/\(∀ i,(Zq L i).isSome=yP E i)/\Mid E V.length rn (fun _=>0) (fun e=>(∃ q∈R,q.key=e.1/\q.stamp∈seen)\/(e.1=r.key/\e.2∈d)) (lvF L) ch/\(∀ i,lvF L i<=rn*1001000000000+seen.length*1000000000+d.length)) ?_ ?_ ?_
           . refine⟨h0,h4,h42,h43,h49,by simp,by simp,by simp,by simp,rfl,hkp.setF (by omega),?_,L,clk1,ch,h9,hlv1,hok,hsome,?_,fun i=>by simpa using hbd i⟩
             . show (List.set _ _ _)[_]?=_;rw[qq4 hitn]
             . exact⟨hmid.rnd,fun e hee hd=>hmid.up e hee (hd.resolve_right fun h=>by simp at h),fun hc e hee hd=>hmid.same hc e hee (hd.resolve_right fun h=>by simp at h),hmid.last⟩
           . clear h0 h4 h42 h43 h49 h9 hkp hit hlv hc1 hm1 hok hsome hmid hbd hen hlv1 hnx hv;rintro d k l ev ⟨H4,T4⟩ Rl4 hRl4 hd hx hlt ⟨h0,h4,h42,h43,h49,h10,h55,h56,h57,hT,hkp,hit,L,clk1,ch,h9,hlv,hok,hsome,hmid,hbd⟩;obtain rfl:T=T4:=hT.symm;simp only at hlv hit hkp;have hkE:(r.key,k)∈E:=Jd (by rw[hsc];exact qqW hx);have hl1:=hok.look (T:=T) qas D3x2 hlv r.key false;have hl2:=hok.look (T:=T) qas D3x2 hlv k false;simp only[qrq,if_false]at hl1 hl2;rw[show (Zq L r.key).getD 0=lvF L r.key from rfl]at hl1;rw[show (Zq L k).getD 0=lvF L k from rfl]at hl2;have hbk:=hbd k;have hnn:=hmid.rnd.nn k;have hdl:d.length<=1000000000:=(by omega);have hsn:seen.length<=1000:=(by omega);have hw:IntKind.i64.wrap (lvF L k+1)=lvF L k+1:=wr (by omega) (by omega);have hdw:=wq (n:=d.length) (by omega);by_cases hc:lvF L r.key<=lvF L k
             . obtain⟨L2,clk2,hu1,hu2,hu3⟩:=hok.upd qas D3x2 r.key (lvF L k+1);have hu:=hu1 _ T _ hlv;have hlf:lvF L2=fun j=>if j=r.key then lvF L k+1 else lvF L j:=by
                funext j;unfold lvF;rw[hu3];split<;>rfl
               simp[-getElem?_pos,h4,h10,h55,h56,h57,hlt,hx,qY,hl1,hl2,hc,hw,hu,hdw];refine hRl4 _ _ ⟨h0,h4,h42,h43,h49,h10,h55,h56,by simp,rfl,hkp.setF (by omega),?_,L2,clk2,true,by simp,?_,hu2,fun i=>?_,?_,fun i=>?_⟩
               . show (List.set _ _ _)[_]?=_;rw[qqX (by omega)];exact hit
               . show (List.set _ _ _)[_]?=_;rw[qq4 (qqV.1 hlv).1]
               . rw[hu3];split
                 . rename_i e;subst e;rw[(qbh hkE).1];rfl
                 . exact hsome i
               . rw[hlf];refine hmid.raise hkE hc fun x hx=>?_
                 rcases hx with hx|⟨h1,h2⟩
                 . exact .inl (.inl hx)
                 . rcases qre.1 h2 with h2|h2
                   . exact .inl (.inr ⟨h1,h2⟩)
                   . simp at h2;exact .inr (Prod.ext h1 h2)
               . rw[hlf,qqY,qq8];show (if i=r.key then lvF L k+1 else lvF L i)<=_;have:=hbd i;split<;>omega
             . simp[-getElem?_pos,h4,h10,h55,h56,h57,hlt,hx,qY,hl1,hl2,hc,hdw];refine hRl4 _ _ ⟨h0,h4,h42,h43,h49,h10,h55,h56,by simp,rfl,hkp,hit,L,clk1,ch,h9,hlv,hok,hsome,?_,fun i=>?_⟩
               . refine hmid.keep (e:=(r.key,k)) (by show lvF L k<lvF L r.key;omega) fun x hx=>?_
                 rcases hx with hx|⟨h1,h2⟩
                 . exact .inl (.inl hx)
                 . rcases qre.1 h2 with h2|h2
                   . exact .inl (.inr ⟨h1,h2⟩)
                   . simp at h2;exact .inr (Prod.ext h1 h2)
               . have:=hbd i;rw[qqY,qq8];omega
           . clear h0 h4 h42 h43 h49 h9 hkp hit hlv hc1 hm1 hok hsome hmid hbd hen hlv1 hnx hv;rintro ev ⟨H4,T4⟩ ⟨h0,h4,h42,h43,h49,h10,h55,h56,h57,hT,hkp,hit,L,clk1,ch,h9,hlv,hok,hsome,hmid,hbd⟩;obtain rfl:T=T4:=hT.symm;simp[-getElem?_pos,h56,h57];simp only[vA]at hlen0;refine hRl3 _ _ _ ?_ ⟨h0,h4,h42,h43,h49,rfl,hkp,seen++[r.stamp],L,clk1,ch,rfl,h9,hit,hlv,hok,hsome,?_,?_,fun i=>?_⟩
             . omega
             . have hcv:∀ e:Int×Int,e∈E->(∃ q∈R,q.key=e.1/\q.stamp∈seen++[r.stamp])->(∃ q∈R,q.key=e.1/\q.stamp∈seen)\/(e.1=r.key/\e.2∈sc):=by
                rintro e hee ⟨q,hq,hqe,hqs⟩;rcases qcl h.after.stamps hr hq hqs with h1|rfl
                . exact .inl ⟨q,hq,hqe,h1⟩
                . refine .inr ⟨hqe.symm,?_⟩;rw[<- hsc,hqe];exact Jx hee
               exact⟨hmid.rnd,fun e hee hd=>hmid.up e hee (hcv e hee hd),fun hc e hee hd=>hmid.same hc e hee (hcv e hee hd),hmid.last⟩
             . rw[qqY,qq8];omega
             . have:=hbd i;rw[qqY,qq8];omega
     . clear h0 h4 h19 hkp hit hlv hc1 hm1 hok hz hdn hnx hall hle hsome hzero hlen hac;rintro ev ⟨H2,T2⟩ ⟨h0,h4,h42,h43,hT,hkp,L,clk1,hlv,hok,hsome,hrd,hbd,hlast⟩;obtain rfl:T=T2:=hT.symm;have hlt:¬ ((V.length:Int)+1<V.length+1):=(by omega);simp[-getElem?_pos,h42,h43];exact⟨hkp,hlast (by omega)⟩
   . obtain⟨e,he,hve⟩:=qq3.1 hv;obtain⟨hem,hns⟩:=qba he;obtain⟨r,hr,rfl⟩:=qq3.1 hem;cases hve;have hitn:(H.length+1)<H1.length:=(qqV.1 hit).1;have hbm:m≠H.length+1:=by
      have:=(qqV.1 hm).1;omega
     have hen:=WI (H:=H1.set (H.length+1) (.miter (some m) clk (seen++[(vA E r).2.2]) clk)) (T:=T) (by rw[qq4 hitn]) (by rw[qqX (Ne.symm hbm)];exact hm1) hem hstm;obtain⟨L2,clk2,hu1,hu2,hu3⟩:=hok.upd qas D3x2 r.key 0;have hlv1:(H1.set (H.length+1) (.miter (some m) clk (seen++[(vA E r).2.2]) clk))[H.length]?=some (.map (L.map wb) clk1):=by
      rw[qqX (by omega)];exact hlv
     have hu:=hu1 _ T _ hlv1;simp only[vA]at hen hu hlv1 ⊢;simp[-getElem?_pos,h4,h19,hen,hu];have hrel:yP E r.key=true:=by
      obtain⟨k,hk⟩:=qtI _ ((h.after.cover r.key).2 (qq3.2 ⟨r,hr,rfl⟩));exact (qbh (Jd hk)).1
     have hsl:(kV E r.key).length<=1000000000:=qrN (Ku E r.key) hE;have hlen0:=qbb hstm he;generalize hsc:kV E r.key=sc at *;refine qv.listR sc (fun d ev O=>ev 0=.ptr B 0/\ev 4=.map H.length/\ev 19=.iter (H.length+1)/\ev 27=.sl 1 (sc.map qY) (.chain r.tok sc.length)/\ev 28=.int .i64 sc.length/\ev 29=.int .i64 d.length/\O.T=T/\KpL [] H O.H/\O.H[H.length+1]?=some (.miter (some m) clk (seen++[r.stamp]) clk) /\
      ∃ L clk',O.H[H.length]?=some (.map (L.map wb) clk')/\LvOk L clk'/\(∀ i v,Zq L i=some v->v=0/\yP E i=true)/\(∀ r∈R,r.stamp∈seen->(Zq L r.key).isSome=true/\∀ k∈kV E r.key,(Zq L k).isSome=true)/\(Zq L r.key).isSome=true/\∀ k∈d,(Zq L k).isSome=true) ?_ ?_ ?_
     . refine⟨h0,h4,h19,by simp,by simp,by simp,rfl,(hkp.setF (by omega)).setF (by omega),?_,L2,clk2,?_,hu2,?_,?_,?_,by simp⟩
       . show (List.set _ _ _)[_]?=_;rw[qqX (by omega),qq4 hitn]
       . show (List.set _ _ _)[_]?=_;rw[qq4 (by rw[qsk];omega)]
       . intro i v hv;rw[hu3]at hv;split at hv
         . rename_i e;subst e;cases hv;exact⟨rfl,hrel⟩
         . exact hz i v hv
       . intro q hq hqs;obtain⟨g1,g2⟩:=hdn q hq hqs;refine⟨?_,fun k hk=>?_⟩
         . rw[hu3];split<;>simp[*]
         . have:=g2 k hk;rw[hu3];split<;>simp[*]
       . rw[hu3,if_pos rfl];rfl
     . clear h0 h4 h19 hu1 hu2 hu3 hu hen hkp hit hlv hlv1 hc1 hm1 hok hz hdn hnx hv;rintro d k l ev ⟨H2,T2⟩ Rl2 hRl2 hd hx hlt ⟨h0,h4,h19,h27,h28,h29,hT,hkp,hit,L,clk1,hlv,hok,hz,hdn,hkey,hds⟩;obtain rfl:T=T2:=hT.symm;obtain⟨L2,clk2,hu1,hu2,hu3⟩:=hok.upd qas D3x2 k 0;simp only at hit hlv hkp;have hu:=hu1 _ T _ hlv;have hkE:(r.key,k)∈E:=Jd (by rw[hsc];exact qqW hx);simp[-getElem?_pos,h4,h27,h28,h29,hlt,hx,qY,hu];refine hRl2 _ _ ⟨h0,h4,h19,h27,h28,by simp;exact wr (by omega) (by omega),rfl,hkp.setF (by omega),?_,L2,clk2,?_,hu2,?_,?_,?_,?_⟩
       . show (List.set _ _ _)[_]?=_;rw[qqX (by omega)];exact hit
       . show (List.set _ _ _)[_]?=_;rw[qq4 (qqV.1 hlv).1]
       . intro i v hv;rw[hu3]at hv;split at hv
         . rename_i e;subst e;cases hv;exact⟨rfl,(qbh hkE).2⟩
         . exact hz i v hv
       . intro q hq hqs;obtain⟨g1,g2⟩:=hdn q hq hqs;refine⟨?_,fun k hk=>?_⟩
         . rw[hu3];split<;>simp[*]
         . have:=g2 k hk;rw[hu3];split<;>simp[*]
       . rw[hu3];split<;>simp[*]
       . intro q hq;rw[hu3];split
         . rfl
         . rename_i hne;rcases qre.1 hq with hq|hq
           . exact hds q hq
           . simp at hq;exact absurd hq hne
     . clear h0 h4 h19 hu1 hu2 hu3 hu hen hkp hit hlv hlv1 hc1 hm1 hok hz hdn hnx hv;rintro ev ⟨H2,T2⟩ ⟨h0,h4,h19,h27,h28,h29,hT,hkp,hit,L,clk1,hlv,hok,hz,hdn,hkey,hds⟩;obtain rfl:T=T2:=hT.symm;simp[-getElem?_pos,h28,h29];refine hRl _ _ _ ?_ ⟨h0,h4,h19,rfl,hkp,seen++[r.stamp],L,clk1,rfl,hit,hlv,hok,hz,fun q hq hqs=>?_⟩
       . simp only[vA]at hlen0;omega
       . rcases qcl h.after.stamps hr hq hqs with h1|rfl
         . exact hdn q hq h1
         . rw[hsc];exact⟨hkey,hds⟩
end
end
end Go.Proofs.YtpgcmnabljandaaGreatDoor
end
