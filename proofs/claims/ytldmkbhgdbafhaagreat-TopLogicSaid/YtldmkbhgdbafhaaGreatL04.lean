import Derived.Lib.Strings
import Derived.Test.YtldmkbhgdbafhaaGreatL03
namespace Go.Proofs.YtldmkbhgdbafhaaGreat
open Go.RowKit
set_option linter.unusedSimpArgs false
set_option linter.unusedVariables false
set_option maxRecDepth 100000
set_option maxHeartbeats 64000000
section
section
variable {r:List Vl} {l:List Vb}
theorem um {o c:Int} (h:10<=o/\o<=15):be (jt o) c=!be o c:=by
 rcases(by omega:o=10\/o=11\/o=12\/o=13\/o=14\/o=15) with rfl | rfl | rfl | rfl | rfl | rfl<;>simp[be,jt]<;>(rw[Bool.eq_iff_iff];simp)
theorem uj {o c:Int} (h:10<=o/\o<=15):be (gw o) c=be o (-c):=by
 rcases(by omega:o=10\/o=11\/o=12\/o=13\/o=14\/o=15) with rfl | rfl | rfl | rfl | rfl | rfl<;>simp[be,gw]<;>omega
theorem iC {o a b:Int} (i:a<0↔b<0) (j:a=0↔b=0):be o a=be o b:=by
 have c:(a<0)=(b<0):=propext i;have d:(a=0)=(b=0):=propext j;have e:(a<=0)=(b<=0):=propext (by omega);have f:(0<a)=(0<b):=propext (by omega);have g:(0<=a)=(0<=b):=propext (by omega);have h:(a≠0)=(b≠0):=propext (by omega);simp only[be,c,d,e,f,g,h]
theorem oz (a b:Int):(ai a b<0↔a - b<0)/\(ai a b=0↔a - b=0):=by unfold ai;split<;>(try split)<;>constructor<;>constructor<;>intros<;>omega
def Pa.tr (r:List Vl):Pa->Bool
 | .kn b=>b
 | .am a=>a.holds r
def Pa.own:Pa->List Int
 | .kn _=>[]
 | .am a=>a.vars
structure pX (r:List Vl) (l:List Vb) (p:Pa) (vs:List Int) (C:Bool):Prop where
 own:∀v∈p.own,v∈vs
 tr:(∀v∈vs,(rv r v).k≠0)->p.tr r=C
 ok:∀a,p=.am a->a.ok l/\2<=a.kd
theorem all_eq_true' {α:Type} {p:α->Bool} {l:List α}:l.all p=true↔∀x∈l,p x=true:=List.all_eq_true
theorem zA {a:Am} (h:a.ok l) (m:2<=a.kd) (c:a.holds r=true):∀v∈a.vars,(rv r v).k≠0:=by
 intro v b;unfold Am.vars at b;unfold Am.holds at c;rw[if_neg (by omega),if_neg (by omega)] at c;have d:a.t.nn r=true->v∈a.t.vars->(rv r v).k≠0:=fun h b=>by
  unfold T.nn at h;rw[List.all_eq_true] at h;simpa using h v b
 by_cases e:a.kd=2
 ·rw[if_pos (.inl e)] at b;rw[if_pos e,Bool.and_eq_true] at c;exact d c.1 b
 rw[if_neg e] at c;by_cases f:a.kd=3
 ·rw[if_pos (.inr (.inl f))] at b;rw[if_pos f,Bool.and_eq_true] at c;exact d c.1 b
 rw[if_neg f] at c;by_cases g:a.kd=4
 ·rw[if_pos (.inr (.inr g))] at b;rw[if_pos g,Bool.and_eq_true] at c;exact d c.1 b
 rw[if_neg g] at c;rw[if_neg (by omega)] at b;by_cases j:a.kd=5
 ·rw[if_pos j,Bool.and_eq_true,decide_eq_true_eq] at c;rw[if_neg (by omega)] at b;obtain rfl:v=a.v:=by simpa using b
  omega
 rw[if_neg j,Bool.and_eq_true,Bool.and_eq_true,decide_eq_true_eq,decide_eq_true_eq] at c;have i:a.kd=6\/a.kd=7:=by
  rcases h with h | h | h | h<;>omega
 rw[if_pos i] at b;simp only[Db,Dw,or_false] at b;rcases b with rfl | rfl<;>omega
theorem fE (fs:List F):F.holds r (aN 0 fs)=fs.all (F.holds r):=by
 unfold aN
 split
 ·simp
 simp[F.holds,F.all_eq]
theorem fD (fs:List F):F.holds r (aN 1 fs)=fs.any (F.holds r):=by
 unfold aN
 split
 ·simp
 simp[F.holds,F.any_eq]
theorem pm (vs:List Int):(ay 0 vs).any (F.holds r)=vs.any (fun v=>decide ((rv r v).k=0)):=by
 unfold ay;rw[List.any_map];congr 1
theorem pj (vs:List Int):(ay 1 vs).all (F.holds r)=vs.all (fun v=>decide ((rv r v).k≠0)):=by
 unfold ay;rw[List.all_map];congr 1
theorem pM {p:Pa} {vs:List Int} {C j:Bool} (h:pX r l p vs C):
 F.holds r (kB j p vs)=if j then vs.any (fun v=>decide ((rv r v).k=0)) || C else vs.all (fun v=>decide ((rv r v).k≠0)) && C:=by
  have e:vs.all (fun v=>decide ((rv r v).k≠0))=!vs.any (fun v=>decide ((rv r v).k=0)):=by
   rw[List.not_any_eq_all_not];congr 1;funext v;simp
  have d:vs.any (fun v=>decide ((rv r v).k=0))=false->p.tr r=C:=fun c=>h.tr (fun v f=>by
   rw[EP] at c;simpa using c v f)
  have s:=h.own;have m:=h.ok;rw[e];unfold kB;cases j with
  | true=>
   simp only[if_true];cases p with
   | kn b=>
    cases b with
    | true=>
     simp only[if_true];cases c:vs.any (fun v=>decide ((rv r v).k=0)) with
     | true=>simp[aD,F.holds,F.all]
     | false=>rw[<-d c];simp[aD,F.holds,F.all,Pa.tr]
    | false=>
     simp only[EW,if_false,fD,pm];cases c:vs.any (fun v=>decide ((rv r v).k=0)) with
     | true=>rfl
     | false=>rw[<-d c];rfl
   | am a=>
    simp only[fD,E8,pm,List.any_cons,List.any_nil,Bool.or_false];cases c:vs.any (fun v=>decide ((rv r v).k=0)) with
    | true=>rfl
    | false=>rw[<-d c];rfl
  | false=>
   simp only[EW,if_false];cases p with
   | kn b=>
    cases b with
    | true=>
     simp only[if_true,fE,pj,e];cases c:vs.any (fun v=>decide ((rv r v).k=0)) with
     | true=>rfl
     | false=>rw[<-d c];rfl
    | false=>
     simp only[EW,if_false];cases c:vs.any (fun v=>decide ((rv r v).k=0)) with
     | true=>simp[aD,F.holds,F.any]
     | false=>rw[<-d c];simp[aD,F.holds,F.any,Pa.tr]
   | am a=>
    simp only[fE,List.all_append,pj,List.all_cons,List.all_nil,Bool.and_true];have g:F.holds r (.at a)=a.holds r:=by simp[F.holds]
    rw[g];cases i:a.holds r with
    | false=>
     rw[Bool.and_false];cases c:vs.any (fun v=>decide ((rv r v).k=0)) with
     | true=>rfl
     | false=>rw[<-d c];simp[Pa.tr,i]
    | true=>
     have q:=zA (m a rfl).1 (m a rfl).2 i;rw[Bool.and_true];cases c:vs.any (fun v=>decide ((rv r v).k=0)) with
     | false=>
      rw[<-d c];simp only[Pa.tr,i,Bool.not_false,Bool.and_true,List.all_eq_true,List.mem_filter,decide_eq_true_eq];rintro v ⟨f,_⟩;rw[EP] at c;simpa using c v f
     | true=>
      rw[Bool.not_true,Bool.false_and,List.all_eq_false];obtain⟨v,f,n⟩:=Fo.1 c;refine⟨v,List.mem_filter.2 ⟨f,?_⟩,by simpa using n⟩;simp only[Bool.not_eq_true',List.contains_eq_mem,decide_eq_false_iff_not,aG];intro o;exact q v o (by simpa using n)
theorem wI {p:Pa} {vs:List Int} {C o:Bool} (h:pX r l p vs C) (d:∀v∈vs,inV l v):F.ok l (kB o p vs):=by
 have g:∀kd,(kd=0\/kd=1)->∀k:List Int,(∀v∈k,inV l v)->∀f∈ay kd k,F.ok l f:=fun kd i k q f c=>by
  unfold ay at c;obtain⟨v,d,rfl⟩:=Dt.1 c;exact .inl ⟨i,q v d,rfl,rfl,rfl⟩
 have e:∀kd,(kd=0\/kd=1)->∀fs:List F,(∀f∈fs,F.ok l f)->F.ok l (aN kd fs):=fun kd i fs c=>by
  unfold aN
  split
  ·exact c _ (by simp)
  exact⟨i,F.oks_iff.2 c⟩
 have n:∀b,F.ok l (aD b):=fun b=>by
  unfold aD;exact⟨by cases b<;>simp,trivial⟩
 unfold kB;cases o<;>simp only[if_true,EW,if_false]<;>cases p with
 | kn b=>
  cases b
  ·first | exact n _ | exact e _ (.inr rfl) _ (g _ (.inl rfl) _ d)
  first | exact n _ | exact e _ (.inl rfl) _ (g _ (.inr rfl) _ d)
 | am a=>
  have m:F.ok l (.at a):=(h.ok a rfl).1
  first
   | refine e 0 (.inl rfl) _ (fun f c=>?_)
     rcases CX.1 c with c | c
     ·exact g 1 (.inr rfl) _ (fun v j=>d v (List.mem_filter.1 j).1) f c
     ·rw[CZ.1 c];exact m
   | refine e 1 (.inr rfl) _ (fun f c=>?_)
     rcases CX.1 c with c | c
     ·exact g 0 (.inl rfl) _ d f c
     ·rw[CZ.1 c];exact m
theorem xZ {o:Int} {t:T} {p:Pa} (J:10<=o/\o<=15) (h:dP o t=(p,0)) (f:Nm t) (e:t.ty l=true):pX r l p t.vars (be o (t.vr r)):=by
 have nn:∀u:T,(∀v∈u.vars,(rv r v).k≠0)->u.nn r=true:=fun u j=>by
  unfold T.nn;rw[List.all_eq_true];exact fun v b=>by simpa using j v b
 unfold dP at h
 split at h
 ·rename_i hp;injection h with h _;subst h;refine⟨(fun v b=>by cases b),fun _=>?_,(fun a d=>by cases d)⟩;have b:t.vr r=t.con:=by rw[T.vr,T.val_eq,hp];simp[vl]
  have A:=oz t.con 0;rw[b];exact iC (by rw[A.1];omega) (by rw[A.2];omega)
 split at h
 ·rename_i h10;injection h with h _;subst h h10;exact⟨fun v b=>by simpa [Pa.own,Am.vars] using b,fun g=>by simp[Pa.tr,Am.holds,nn t g,be],fun a d=>by injection d with d;subst d;exact⟨.inr (.inl ⟨.inr (.inl rfl),rfl,rfl,rfl,f,e⟩),by show (2:Int)<=3;decide⟩⟩
 split at h
 ·rename_i h11;injection h with h _;subst h h11;exact⟨fun v b=>by simpa [Pa.own,Am.vars] using b,fun g=>by simp[Pa.tr,Am.holds,nn t g,be],fun a d=>by injection d with d;subst d;exact⟨.inr (.inl ⟨.inr (.inr rfl),rfl,rfl,rfl,f,e⟩),by show (2:Int)<=4;decide⟩⟩
 rename_i h10 h11;obtain⟨u,j⟩:∃u,u=if o=15\/o=14 then az t (-1) else t:=⟨_,rfl⟩
 rw[<-j] at h;obtain⟨z,B⟩:∃z,z=if o=12\/o=14 then aQ u (.c 1) else u:=⟨_,rfl⟩
 rw[<-B] at h
 split at h
 ·split at h
  ·rename_i su sz;injection h with h _;subst h;have i:u.ok/\Srt u.pts/\u.ty l=true/\(∀v∈u.vars,v∈t.vars)/\u.vr r=if o=15\/o=14 then -t.vr r else t.vr r:=by
    rw[j]
    split
    ·exact⟨cg f.1,bM f.2.2,jC e,fun v b=>fY b,by unfold T.vr;rw[dH];omega⟩
    exact⟨f.1,f.2.2,e,fun v b=>b,rfl⟩
   have m:z.ok/\Srt z.pts/\z.ty l=true/\(∀v∈z.vars,v∈t.vars)/\z.vr r=if o=12\/o=14 then u.vr r+1 else u.vr r:=by
    obtain⟨n,q,s,w,H⟩:=i;rw[B]
    split
    ·refine⟨iL n trivial,iK q List.Pairwise.nil,mH s rfl,fun v b=>?_,by unfold T.vr;rw[fQ];rfl⟩;rcases jk b with b | b
     ·exact w v b
     cases b
    exact⟨n,q,s,w,rfl⟩
   obtain⟨C,D,E,x,y⟩:=m;rw[i.2.2.2.2] at y;refine⟨fun v b=>x v (by simpa [Pa.own,Am.vars] using b),fun g=>?_,fun a d=>by injection d with d;subst d;exact⟨.inr (.inl ⟨.inl rfl,rfl,rfl,rfl,⟨C,sz,D⟩,E⟩),by show (2:Int)<=2;decide⟩⟩;have F:=nn z (fun v b=>g v (x v b));show Am.holds r ⟨2,0,0,z,ts0⟩=_;simp only[Am.holds,show (2:Int)≠0 by decide,show (2:Int)≠1 by decide,if_false,if_true,F,Bool.true_and,y];rcases(by omega:o=12\/o=13\/o=14\/o=15) with rfl | rfl | rfl | rfl<;>simp[be]<;>omega
  injection h with _ h;cases h
 injection h with _ h;cases h
theorem vQ {o:Int} {a b:T} {p:Pa} {vs:List Int} (q:10<=o/\o<=15) (h:fd o a b=(p,0)) (e:Nm a) (f:Nm b) (s:a.ty l=true) (t:b.ty l=true) (u:∀v∈a.vars,v∈vs) (w:∀v∈b.vars,v∈vs):
 pX r l p vs (be o (ai (a.vr r) (b.vr r))):=by
  unfold fd at h
  split at h
  ·split at h
   ·rename_i s1 s2;have n:Nm (aQ a (az b (-1))):=⟨iL e.1 (cg f.1),s2,iK e.2.2 (bM f.2.2)⟩;have c:(aQ a (az b (-1))).vr r=a.vr r - b.vr r:=by unfold T.vr;rw[fQ,dH];omega
    have g:=oz (a.vr r) (b.vr r);obtain⟨j,k,m⟩:=xZ (r:=r) (l:=l) q h n (mH s (jC t));have i:∀v∈(aQ a (az b (-1))).vars,v∈vs:=fun v c=>by
     rcases jk c with c | c
     ·exact u v c
     exact w v (fY c)
    refine⟨fun v c=>i v (j v c),fun d=>?_,m⟩;rw[k (fun v c=>d v (i v c)),c];exact iC g.1.symm g.2.symm
   simp at h
  simp at h
theorem jE {e:E} (h:Opd r l e) (p:e.null=false):gg l e=e.text l:=by
 cases g:e.text l with
 | true=>
  obtain⟨c,m⟩:=h.one p g;unfold gg;rcases m with ⟨d,_,f⟩ | ⟨d,f,_⟩
  ·rw[if_neg (by omega)];simp[d,f]
  rw[if_pos d];exact f
 | false=>
  obtain⟨c,m⟩:=h.int_ p g;cases e with
  | z o i v=>exact g
  | a o i v x=>
   unfold E.int at c;have:o=9\/o=3:=by
    by_cases n:o=9
    ·exact .inl n
    rw[if_neg n] at c;by_cases d:o=3
    ·exact .inr d
    rw[if_neg d] at c;cases c
   have j:o≠1:=by omega
   have k:o≠2:=by omega
   simp[gg,E.op,j,k]
  | b o i v x y=>
   unfold E.int at c
   split at c
   ·have j:o≠1:=by omega
    have k:o≠2:=by omega
    simp[gg,E.op,j,k]
   cases c
  | many _ _ _=>cases c
theorem kU {o:Int} {s u:ByteArray} (b:10<=o/\o<=15):(db o s).pass u=be o (cJ u s):=by
 have a:decide (u=s)=decide (cJ u s=0):=decide_eq_decide.2 iS.symm;rcases(by omega:o=10\/o=11\/o=12\/o=13\/o=14\/o=15) with rfl | rfl | rfl | rfl | rfl | rfl<;>simp[db,Ts.pass,be,a]<;>(rw[Bool.eq_iff_iff];simp)<;>omega
theorem iO {v:Vl} (h:vOk v=true) (a:v.k=2):v.n=0/\iQ v.s=true:=by
 unfold vOk at h;simp only[a,show (2:Int)≠0 by decide,show (2:Int)≠1 by decide,if_false,if_true,Bool.and_eq_true,decide_eq_true_eq] at h;refine⟨h.1,?_⟩;unfold iQ;rw[Bool.and_eq_true,decide_eq_true_eq];refine⟨?_,h.2.2⟩;have:=h.2.1;rwa [Lib.toList_data v.s] at this
theorem xK {a b:Vl} (c:a.n=0) (d:b.n=0):gf a b=cJ a.s b.s:=by
 unfold gf;rw[c,d];have:cJ a.s b.s= -1\/cJ a.s b.s=0\/cJ a.s b.s=1:=om _ _;rcases this with h | h | h<;>simp[h]
theorem vm {a b:Vl} (d:a.s.size=0) (f:b.s.size=0):gf a b=ai a.n b.n:=by
 have e:∀s:ByteArray,s.size=0->s.data.toList=[]:=fun s g=>Dh (by rw[DO];exact g);have c:cJ a.s b.s=0:=by unfold cJ;rw[e _ d,e _ f];rfl
 unfold gf ai;rw[c];simp
def trB (r:List Vl) (o:Int) (x y:E):Bool:=if o=16 then lkB (evE r x).s (evE r y).s else be o (gf (evE r x) (evE r y))
theorem fT {e:E} (h:Opd r l e) (g:e.null=false) (c:e.text l=true) (f:(evE r e).k≠0):(evE r e).n=0/\iQ (evE r e).s=true/\(evE r e).k=2:=by
 obtain⟨b,d⟩:=h.tx c;have a:(evE r e).k=2:=by omega
 have:=iO b a;exact⟨this.1,this.2,a⟩
theorem uT {o:Int} {x y:E} (ho:10<=o/\o<=15) (L:Opd r l x) (M:Opd r l y) (P:x.null=false) (Q:y.null=false) (Y:x.text l=true) (ty:y.text l=true)
 (a0:x.op=1\/y.op=1\/o=10\/o=11):pX r l (ej o x y) (sc (ah x++ah y)) (be o (gf (evE r x) (evE r y))):=by
  have kx:(∀v∈sc (ah x++ah y),(rv r v).k≠0)->(evE r x).k≠0:=fun h hk=>by
   obtain⟨v,g,h0⟩:=(L.cols P).1 hk;exact h v (aG.2 (CX.2 (.inl g))) h0
  have ky:(∀v∈sc (ah x++ah y),(rv r v).k≠0)->(evE r y).k≠0:=fun h hk=>by
   obtain⟨v,g,h0⟩:=(M.cols Q).1 hk;exact h v (aG.2 (CX.2 (.inr g))) h0
  have n:(∀v∈sc (ah x++ah y),(rv r v).k≠0)->gf (evE r x) (evE r y)=cJ (evE r x).s (evE r y).s:=fun h=>xK (fT L P Y (kx h)).1 (fT M Q ty (ky h)).1;have N:(∀v∈sc (ah x++ah y),(rv r v).k≠0)->(evE r x).k=2:=fun h=>(fT L P Y (kx h)).2.2;have O:(∀v∈sc (ah x++ah y),(rv r v).k≠0)->(evE r y).k=2:=fun h=>(fT M Q ty (ky h)).2.2;have F:∀a b:ByteArray,cJ b a= -cJ a b:=fun a b=>lJ _ _;obtain⟨lx,ox⟩:=L.one P Y;obtain⟨ly,oy⟩:=M.one Q ty;have p:∀e:E,e.leaf=true->e.op=2->ah e=[e.ix]:=fun e W H=>by
   cases e with
   | z o i v=>simp only[E.op] at H;simp[ah,H,E.ix]
   | a _ _ _ _=>cases W
   | b _ _ _ _ _=>cases W
   | many _ _ _=>cases W
  have S:∀e:E,Opd r l e->e.null=false->e.text l=true->e.op=1->evE r e=e.lit->e.lit.k=2->iQ e.lit.s=true:=fun e X hn ht W H h3=>by
   have:=(iO (X.tx ht).1 (by rw[H];exact h3)).2;rwa [H] at this
  have kd:∀o s,(10:Int)<=o/\o<=15->(db o s).v=0/\0<=(db o s).kd/\(db o s).kd<=3:=fun o s h=>by
   unfold db;refine⟨rfl,?_,?_⟩<;>dsimp only<;>split<;>(try split)<;>decide
  have R:10<=gw o/\gw o<=15:=by unfold gw;split<;>(try split)<;>(try split)<;>(try split)<;>omega
  unfold ej;rcases ox with ⟨C,B,D⟩ | ⟨C,B,D⟩
  ·rcases oy with ⟨t,q,w⟩ | ⟨t,q,w⟩
   ·rw[if_pos ⟨C,t⟩];exact⟨(fun v g=>by cases g),fun h=>by rw[n h,B,q];rfl,(fun a f=>by cases f)⟩
   rw[if_neg (by omega),if_pos C];refine⟨fun v g=>?_,fun h=>?_,fun a f=>?_⟩
   ·rw[aG,p y ly t];simp[Pa.own,Am.vars] at g;simp[g]
   ·rw[n h,F,B,w,<-uj ho,<-kU (u:=(rv r y.ix).s) R];have:=O h;rw[w] at this;simp[Pa.tr,Am.holds,this]
   injection f with f;subst f;have:=kd (gw o) x.lit.s R;exact⟨.inr (.inr (.inl ⟨rfl,q,rfl,rfl,this.1,this.2.1,this.2.2,S x L P Y C B D⟩)),by show (2:Int)<=5;decide⟩
  rcases oy with ⟨t,q,w⟩ | ⟨t,q,w⟩
  ·rw[if_neg (by omega),if_neg (by omega),if_pos t];refine⟨fun v g=>?_,fun h=>?_,fun a f=>?_⟩
   ·rw[aG,p x lx C];simp[Pa.own,Am.vars] at g;simp[g]
   ·rw[n h,q,D,<-kU (u:=(rv r x.ix).s) ho];have:=N h;rw[D] at this;simp[Pa.tr,Am.holds,this]
   injection f with f;subst f;have:=kd o y.lit.s ho;exact⟨.inr (.inr (.inl ⟨rfl,B,rfl,rfl,this.1,this.2.1,this.2.2,S y M Q ty t q w⟩)),by show (2:Int)<=5;decide⟩
  rw[if_neg (by omega),if_neg (by omega),if_neg (by omega)];have m:o=10\/o=11:=by omega
  split
  ·rename_i X;refine⟨(fun v g=>by cases g),fun h=>?_,(fun a f=>by cases f)⟩;rw[n h,D,w,X,iS.2 rfl];rcases m with rfl | rfl<;>simp[Pa.tr,be]
  rename_i X;have A:(if o=11 then (7:Int) else 6)=6\/(if o=11 then (7:Int) else 6)=7:=by split<;>simp
  obtain⟨j,J⟩:∃k,k=(if o=11 then (7:Int) else 6):=⟨_,rfl⟩;rw[<-J] at A ⊢;refine⟨fun v g=>?_,fun h=>?_,fun a f=>?_⟩
  ·rw[aG,p x lx C,p y ly t];have K:v∈(if j=2\/j=3\/j=4 then T.vars (.c 0) else if j=6\/j=7 then [min x.ix y.ix,max x.ix y.ix] else [min x.ix y.ix]):=g;rw[if_neg (by omega),if_pos A] at K;simp only[Db,Dw,or_false] at K;simp only[CX,CZ];omega
  ·have e1:=N h;have e2:=O h;rw[n h];rw[D] at e1 ⊢;rw[w] at e2 ⊢;have k1:(rv r (min x.ix y.ix)).k=2:=by
    rcases Int.le_total x.ix y.ix with d | d
    ·rw[Int.min_eq_left d];exact e1
    rw[Int.min_eq_right d];exact e2
   have k2:(rv r (max x.ix y.ix)).k=2:=by
    rcases Int.le_total x.ix y.ix with d | d
    ·rw[Int.max_eq_right d];exact e2
    rw[Int.max_eq_left d];exact e1
   have k3:decide ((rv r (min x.ix y.ix)).s=(rv r (max x.ix y.ix)).s)=decide ((rv r x.ix).s=(rv r y.ix).s):=by
    rcases Int.le_total x.ix y.ix with d | d
    ·rw[Int.min_eq_left d,Int.max_eq_right d]
    rw[Int.min_eq_right d,Int.max_eq_left d];exact decide_eq_decide.2 eq_comm
   show (if j=0 then _ else if j=1 then _ else if j=2 then _ else if j=3 then _ else if j=4 then _ else if j=5 then _ else decide ((rv r (min x.ix y.ix)).k=2) && decide ((rv r (max x.ix y.ix)).k=2) && (decide ((rv r (min x.ix y.ix)).s=(rv r (max x.ix y.ix)).s)==decide (j=6)))=_;rw[if_neg (by omega),if_neg (by omega),if_neg (by omega),if_neg (by omega),if_neg (by omega),if_neg (by omega),k1,k2,k3,J];have hz:decide ((rv r x.ix).s=(rv r y.ix).s)=decide (cJ (rv r x.ix).s (rv r y.ix).s=0):=decide_eq_decide.2 iS.symm;rcases m with rfl | rfl<;>simp[be,hz]
  injection f with f;subst f;refine⟨.inr (.inr (.inr ⟨A,?_,?_,?_,rfl,rfl⟩)),by show (2:Int)<=j;omega⟩
  ·show aK l (min x.ix y.ix) 2=true;rcases Int.le_total x.ix y.ix with d | d
   ·rw[Int.min_eq_left d];exact B
   rw[Int.min_eq_right d];exact q
  ·show aK l (max x.ix y.ix) 2=true;rcases Int.le_total x.ix y.ix with d | d
   ·rw[Int.max_eq_right d];exact q
   rw[Int.max_eq_left d];exact B
  show min x.ix y.ix<max x.ix y.ix;omega
theorem vL {x y:E} {ps:Bool} (h:cC l x y=true) (w:Opd r l x) (p:x.null=false) (J:y.null=false):
 pX r l (ii x y ps) (sc (ah x++ah y)) (if ps then lkB (evE r x).s (evE r y).s else !lkB (evE r x).s (evE r y).s)/\evE r y=y.lit/\ah y=[]/\x.text l=true:=by
  unfold cC at h;simp only[Bool.and_eq_true,decide_eq_true_eq,Bool.or_eq_true,p,EW,or_false] at h;obtain⟨⟨⟨⟨⟨⟨g,j⟩,F⟩,t⟩,A⟩,B⟩,H⟩:=h;have m:evE r y=y.lit/\ah y=[]:=by
   cases y with
   | z o i v=>simp only[E.op] at t;subst t;exact⟨by simp[evE,E.lit],by simp[ah]⟩
   | a _ _ _ _=>cases g
   | b _ _ _ _ _=>cases g
   | many _ _ _=>cases g
  refine⟨?_,m.1,m.2,j⟩;obtain⟨n,D⟩:=w.one p j;rw[m.1];unfold ii;rcases D with ⟨e,q,f⟩ | ⟨e,q,f⟩
  ·rw[if_pos e];exact⟨(fun v d=>by cases d),fun h=>by rw[q];cases ps<;>simp[Pa.tr],(fun a c=>by cases c)⟩
  rw[if_neg (by omega)];have u:ah x=[x.ix]:=by
   cases x with
   | z o i v=>simp only[E.op] at e;simp[ah,e,E.ix]
   | a _ _ _ _=>cases n
   | b _ _ _ _ _=>cases n
   | many _ _ _=>cases n
  refine⟨fun v d=>?_,fun h=>?_,fun a c=>?_⟩
  ·rw[aG,u];simp[Pa.own,Am.vars] at d;simp[d]
  ·have C:(rv r x.ix).k≠0:=h x.ix (by rw[aG,u];simp);have:=(fT w p j (by rw[f];exact C)).2.2;rw[f] at this;rw[f];cases ps<;>simp[Pa.tr,Am.holds,this,Ts.pass]
  injection c with c;subst c;exact⟨.inr (.inr (.inl ⟨rfl,q,rfl,rfl,rfl,(show (0:Int)<=1 by decide),(show (1:Int)<=3 by decide),(iO B A).2⟩)),by show (2:Int)<=5;decide⟩
theorem qu {o m:Int} {x y:E} {p:Pa} (ho:10<=o/\o<=16) (F:bD r l) (n:Opd r l x) (z:Opd r l y) (c:x.null=false) (d:y.null=false) (a:if o=16 then cC l x y=true else kD l o x y=true)
 (h:cG l o x y m=(p,0)):pX r l p (sc (ah x++ah y)) (if psM m then trB r o x y else !trB r o x y):=by
  unfold cG at h;unfold trB;by_cases b:o=16
  ·rw[if_pos b] at h a;injection h with h _;subst h;have:=(vL (ps:=psM m) a n c d).1;simpa [b] using this
  rw[if_neg b] at h a;simp only[if_neg b];have i:10<=o/\o<=15:=by omega
  obtain⟨q,j⟩:∃q,q=if psM m then o else jt o:=⟨_,rfl⟩
  rw[<-j] at h;have k:10<=q/\q<=15:=by
   rw[j]
   split
   ·exact i
   unfold jt;split<;>(try split)<;>(try split)<;>(try split)<;>(try split)<;>omega
  have e:(if psM m then be o (gf (evE r x) (evE r y)) else !be o (gf (evE r x) (evE r y)))=be q (gf (evE r x) (evE r y)):=by
   rw[j]
   split
   ·rfl
   exact(um i).symm
  rw[e];rw[jE n c,jE z d] at h;have A:x.nl=false:=by cases x<;>simp_all [E.nl,E.null]
  have B:y.nl=false:=by cases y<;>simp_all [E.nl,E.null]
  unfold kD at a;rw[A,B] at a
  split at h
  ·rename_i ht;injection h with h _;subst h;simp only[Bool.or_eq_true,Bool.and_eq_true,Bool.not_eq_true',Bool.or_false,decide_eq_true_eq] at a ht;have f:x.text l=true/\y.text l=true/\(x.op=1\/y.op=1\/o=10\/o=11):=by
    rcases a with a | a
    ·rw[a.1,a.2] at ht;simp at ht
    exact⟨a.1.1,a.1.2,by rcases a.2 with ((h | h) | h) | h<;>simp[h]⟩
   refine uT k n z c d f.1 f.2.1 ?_;rcases f.2.2 with h | h | h | h
   ·exact .inl h
   ·exact .inr (.inl h)
   ·subst h;rw[j];split<;>simp[jt]
   subst h;rw[j];split<;>simp[jt]
  rename_i ht;simp only[Bool.or_eq_true,not_or,Bool.not_eq_true] at ht;obtain⟨ix,M⟩:=n.int_ c ht.1;obtain⟨s,N⟩:=z.int_ d ht.2;have t:ofE x=((ofE x).1,0):=by rw[<-M]
  have u:ofE y=((ofE y).1,0):=by rw[<-N]
  obtain⟨T,R⟩:=fz ix c t;obtain⟨W,S⟩:=fz s d u;obtain⟨O,P,Q⟩:=vQ (r:=r) (l:=l) k h (eP l ix c t) (eP l s d u) R S (vs:=sc (ah x++ah y)) (fun v g=>aG.2 (CX.2 (.inl (T v g)))) (fun v g=>aG.2 (CX.2 (.inr (W v g))));refine⟨O,fun w=>?_,Q⟩;rw[P w];have C:nnE r x=true:=by rw[eR (.inl ix) c,List.all_eq_true];exact fun v g=>by simpa using w v (aG.2 (CX.2 (.inl g)))
  have D:nnE r y=true:=by rw[eR (.inl s) d,List.all_eq_true];exact fun v g=>by simpa using w v (aG.2 (CX.2 (.inr g)))
  obtain⟨X,H,J⟩:=(iA F ix c t).2.2 C;obtain⟨Y,K,L⟩:=(iA F s d u).2.2 D;rw[vm J L,H,K];rfl
theorem gF:∀e:E,cdE r e=0\/cdE r e=1\/cdE r e=2
 | .z _ _ _=>by simp[cdE]
 | .a o _ _ x=>by
   have:=gF x;unfold cdE ofB
   split
   ·split<;>simp
   split<;>omega
 | .b o _ _ x y=>by
   unfold cdE
   split
   ·split
    ·omega
    split<;>omega
   split
   ·simp
   unfold ofB;split<;>split<;>simp
 | .many .. =>by simp[cdE]
theorem tj {m:Int} (h:0<=m/\m<=3):0<=ngM m/\ngM m<=3:=by unfold ngM;split<;>(try split)<;>(try split)<;>omega
theorem nR {m:Int} (h:0<=m/\m<=3) (b:Bool):nG m (ofB b)=if psM m then b else !b:=by
 rcases(by omega:m=0\/m=1\/m=2\/m=3) with rfl | rfl | rfl | rfl<;>cases b<;>rfl
theorem nQ {m:Int} (h:0<=m/\m<=3):nG m 2=wkM m:=by
 rcases(by omega:m=0\/m=1\/m=2\/m=3) with rfl | rfl | rfl | rfl<;>rfl
theorem jn (b:Bool):F.holds r (aD b)=b:=by cases b<;>simp[aD,F.holds,F.all,F.any]
theorem od (b:Bool):F.ok l (aD b):=⟨by cases b<;>simp,trivial⟩
theorem nB {kd:Int} (d:kd=0\/kd=1) {a:List Int} (g:∀v∈a,inV l v):F.ok l (aN (1 - kd) (ay kd a)):=by
 have c:∀f∈ay kd a,F.ok l f:=fun f b=>by
  unfold ay at b;obtain⟨v,e,rfl⟩:=Dt.1 b;exact .inl ⟨d,g v e,rfl,rfl,rfl⟩
 unfold aN
 split
 ·rename_i f he;exact c f (by rw[he];simp)
 exact⟨by omega,F.oks_iff.2 c⟩
theorem jz {l:List Vb} {y:E} (c:y.leaf=true) (e:y.op=1) (d:y.lit.k=2) (f:vOk y.lit=true):bT l y=true/\y.null=false:=by
 cases y with
 | z o i v=>
  simp only[E.op] at e;simp only[E.lit] at d f;subst e;exact⟨by simp[bT,E.text,d,E.lit,f],by simp[E.null,d]⟩
 | a _ _ _ _=>cases c
 | b _ _ _ _ _=>cases c
 | many _ _ _=>cases c
theorem wt (o:Int) (t:T):(dP o t).2=0\/(dP o t).2=3:=by
 have a:∀(P Q:Prop) [Decidable P] [Decidable Q] (p:Pa),(if P then (if Q then (p,0) else (Pa.kn false,(3:Int))) else (Pa.kn false,3)).2=0\/(if P then (if Q then (p,0) else (Pa.kn false,(3:Int))) else (Pa.kn false,3)).2=3:=fun P Q _ _ p=>by
  by_cases h:P<;>by_cases e:Q<;>simp[h,e]
 unfold dP;by_cases b:t.pts=[]
 ·rw[if_pos b];exact .inl rfl
 rw[if_neg b];by_cases c:o=10
 ·rw[if_pos c];exact .inl rfl
 rw[if_neg c];by_cases d:o=11
 ·rw[if_pos d];exact .inl rfl
 rw[if_neg d];exact a _ _ _
theorem sU (l:List Vb) (o:Int) (x y:E) (m:Int):(cG l o x y m).2=0\/(cG l o x y m).2=3:=by
 unfold cG
 split
 ·exact .inl rfl
 split
 ·exact .inl rfl
 unfold fd
 split
 ·split
  ·exact wt _ _
  exact .inr rfl
 exact .inr rfl
theorem kT (C:bD r l):∀ {d:Nat} {e:E} {m:Int} {f:F} {k:Int},ci l d e=true->(0<=m/\m<=3)->trE l e m=(f,k)->(k=0\/k=3)/\(k=0->F.ok l f/\F.holds r f=nG m (cdE r e))
 | 0,e,m,f,k,h,hm,ht=>by cases e<;>cases h
 | d+1,.z ..,m,f,k,h,hm,ht=>by cases h
 | d+1,.many ..,m,f,k,h,hm,ht=>by cases h
 | d+1,.a o i v x,m,f,k,h,hm,ht=>by
   unfold ci at h;rw[Bool.and_eq_true] at h;replace h:=h.2;unfold trE at ht;by_cases H:o=20
   ·rw[if_pos H] at h ht;obtain⟨u,s⟩:=kT C h (tj hm) ht;refine⟨u,fun p=>⟨(s p).1,?_⟩⟩;rw[(s p).2];have:=gF (r:=r) x;have j:cdE r (.a o i v x)=if cdE r x=2 then 2 else 1 - cdE r x:=by
     rw[cdE,if_neg (by omega)]
    rw[j];generalize cdE r x=A at*;rcases(by omega:m=0\/m=1\/m=2\/m=3) with rfl | rfl | rfl | rfl<;>rcases this with rfl | rfl | rfl<;>rfl
   rw[if_neg H] at h ht;simp only[Bool.and_eq_true,decide_eq_true_eq] at h;obtain⟨rfl,L⟩:=h;have t:=dt C L;have j:cdE r (.a 17 i v x)=ofB (decide ((evE r x).k=0)):=by simp[cdE]
   rw[j,nR hm];cases c:x.null with
   | true=>
    rw[c,if_pos rfl] at ht;injection ht with u s;subst u s;refine⟨.inl rfl,fun _=>⟨od _,?_⟩⟩;rw[jn];simp[t.nul c]
   | false=>
    rw[c] at ht;simp only[EW,if_false] at ht;have J:=t.cols c;have n:(sc (ah x)).any (fun v=>decide ((rv r v).k=0))=decide ((evE r x).k=0):=by
     rw[Bool.eq_iff_iff,Fo,decide_eq_true_eq,J];simp only[aG,decide_eq_true_eq]
    split at ht
    ·rename_i hp;injection ht with u s;subst u s;refine⟨.inl rfl,fun _=>⟨nB (kd:=0) (.inl rfl) (fun v g=>t.ran v (aG.1 g)),?_⟩⟩;rw[fD,pm,n,hp];rfl
    rename_i hp;injection ht with u s;subst u s;refine⟨.inl rfl,fun _=>⟨nB (kd:=1) (.inr rfl) (fun v g=>t.ran v (aG.1 g)),?_⟩⟩;rw[fE,pj,if_neg hp,<-n,List.not_any_eq_all_not]
    congr 1;funext v;simp
 | d+1,.b o i v x y,m,f,k,h,hm,ht=>by
   unfold ci at h;rw[Bool.and_eq_true] at h;replace h:=h.2;unfold trE at ht;by_cases q:o=18\/o=19
   ·rw[if_pos q] at h ht;rw[Bool.and_eq_true] at h;obtain⟨u,s⟩:=kT C h.1 hm (rfl:trE l x m=((trE l x m).1,(trE l x m).2));obtain⟨P,N⟩:=kT C h.2 hm (rfl:trE l y m=((trE l y m).1,(trE l y m).2))
    split at ht
    ·rename_i hx0
     split at ht
     ·rename_i hy0;injection ht with e1 e2;subst e1 e2;refine⟨.inl rfl,fun _=>⟨⟨by split<;>simp,(s hx0).1,(N hy0).1,trivial⟩,?_⟩⟩;have a:=(s hx0).2;have b:=(N hy0).2;have c1:=gF (r:=r) x;have c2:=gF (r:=r) y;have j:cdE r (.b o i v x y)=if cdE r x=o - 18\/cdE r y=o - 18 then o - 18 else if cdE r x=2\/cdE r y=2 then 2 else 1 - (o - 18):=by rw[cdE,if_pos q]
      rw[j];generalize cdE r x=A at*;generalize cdE r y=B at*;rcases q with rfl | rfl<;>rcases(by omega:m=0\/m=1\/m=2\/m=3) with rfl | rfl | rfl | rfl<;>simp only[F.holds,F.all,F.any,a,b]<;>rcases c1 with rfl | rfl | rfl<;>rcases c2 with rfl | rfl | rfl<;>rfl
     injection ht with e1 e2;subst e2;exact⟨P,fun p=>absurd p ‹_›⟩
    injection ht with e1 e2;subst e2;exact⟨u,fun p=>absurd p ‹_›⟩
   rw[if_neg q] at h ht;have j:cdE r (.b o i v x y)=if (evE r x).k=0\/(evE r y).k=0 then 2 else ofB (trB r o x y):=by
    unfold cdE trB;rw[if_neg q]
    split
    ·rfl
    split<;>rfl
   have M:10<=o/\o<=16/\bT l x=true/\bT l y=true/\(if o=16 then cC l x y=true else kD l o x y=true):=by
    by_cases w:o=16
    ·rw[if_pos w] at h;rw[if_pos w];have R:=h;unfold cC at h;simp only[Bool.and_eq_true,decide_eq_true_eq] at h;exact⟨by omega,by omega,h.1.1.1.1.2,(jz h.1.1.1.1.1.1 h.1.1.1.2 h.1.1.2 h.1.2).1,R⟩
    rw[if_neg w] at h;simp only[Bool.and_eq_true,decide_eq_true_eq] at h;rw[if_neg w];exact⟨h.1.1.1.1,by omega,h.1.1.2,h.1.2,h.2⟩
   obtain⟨S,T,t,D,Q⟩:=M;replace t:=dt C t;replace D:=dt C D;rw[j];unfold lG at ht;cases c:x.null || y.null with
   | true=>
    rw[c,if_pos rfl] at ht;injection ht with e1 e2;subst e1 e2;refine⟨.inl rfl,fun _=>⟨od _,?_⟩⟩;rw[jn,if_pos,nQ hm];rw[Bool.or_eq_true] at c;rcases c with c | c
    ·exact .inl (t.nul c)
    exact .inr (D.nul c)
   | false=>
    rw[c] at ht;simp only[EW,if_false] at ht;rw[Bool.or_eq_false_iff] at c
    split at ht
    ·rename_i hp;injection ht with e1 e2;subst e1 e2;have O:=qu (r:=r) (m:=m) ⟨S,T⟩ C t D c.1 c.2 Q (by rw[<-hp]:cG l o x y m=((cG l o x y m).1,0));refine⟨.inl rfl,fun _=>⟨wI O (fun v g=>?_),?_⟩⟩
     ·rcases CX.1 (aG.1 g) with g | g
      ·exact t.ran v g
      exact D.ran v g
     rw[pM O];have n:(sc (ah x++ah y)).any (fun v=>decide ((rv r v).k=0))=decide ((evE r x).k=0\/(evE r y).k=0):=by
      rw[Bool.eq_iff_iff,Fo,decide_eq_true_eq,t.cols c.1,D.cols c.2];simp only[aG,CX,decide_eq_true_eq];constructor
      ·rintro⟨v,g | g,h⟩
       ·exact .inl ⟨v,g,h⟩
       exact .inr ⟨v,g,h⟩
      rintro(⟨v,g,h⟩ | ⟨v,g,h⟩)
      ·exact⟨v,.inl g,h⟩
      exact⟨v,.inr g,h⟩
     have K:(sc (ah x++ah y)).all (fun v=>decide ((rv r v).k≠0))=!(sc (ah x++ah y)).any (fun v=>decide ((rv r v).k=0)):=by
      rw[List.not_any_eq_all_not];congr 1;funext v;simp
     rw[K,n];by_cases p:(evE r x).k=0\/(evE r y).k=0
     ·rw[if_pos p,decide_eq_true p,nQ hm];cases wkM m<;>simp
     rw[if_neg p,decide_eq_false p,nR hm];cases wkM m<;>simp
    rename_i hp;injection ht with e1 e2;subst e2;exact⟨.inr rfl,fun p=>by cases p⟩
end
end
end Go.Proofs.YtldmkbhgdbafhaaGreat
