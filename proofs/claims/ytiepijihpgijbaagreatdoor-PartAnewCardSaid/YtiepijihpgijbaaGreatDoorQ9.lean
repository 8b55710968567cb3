import Derived.Test.YtiepijihpgijbaaGreatDoorQ8
set_option maxHeartbeats 8000000
set_option maxRecDepth 100000
set_option linter.all false
open Go.IntKind renaming u8→U,i64→J
open Go.Value renaming pointer→G,int→I,slice→Y
open Option renaming some→Z,none→O
open Go.Obj renaming cells→T
open List renaming setIfInBounds_toArray→aX,mem_cons_self→aY,set_cons_zero→a1,set_cons_succ→a2,mem_cons_of_mem→bK,getElem_mem→bO,mem_or_eq_of_mem_set→b7,drop_succ_cons→ck,any_eq_false→cq,mem_append→cu,getD_eq_getElem?_getD→cw,drop_zero→cx,mem_cons→cy,getElem?_eq_getElem→cz,drop_nil→cA,mem_map→cC
open Go renaming Value→a6,World→bY,execOp→ch,heap_alloc_new→cm,TypeId→cs,Calls→cB
open Go.Value.slice renaming injEq→bX
open Bool renaming and_eq_true→bZ,not_eq_true'→ca
open Nat renaming le_refl→cb,zero_le→ct,zero_add→cD,le_trans→cE
open Int renaming toNat_natCast→cc
open Go.Value.agg renaming injEq→cn
open List.cons renaming injEq→cp
open Array.mk renaming injEq→cr
namespace Go.Proofs.YtiepijihpgijbaaGreatDoor
open Go.RowKit Tryz
def NM(g:Nat)(a:Hd)(b:Nat):Prop:=b∉Mut g a
def KeepD.nm{g:Nat}{a:Hd}{w w':bY}(h:Upd (Mut g a) w w'):KeepD (NM g a) w w':=⟨h.size,fun b c d=>h.block b d c⟩
def PA.P2{w:bY}{D:Nat→Prop}{g:Nat}{d:Ad}{c:Hd}{s:Ae}(h:PA w D g d c s):∀ b,D b→NM g c b:=fun b a e=>by
 simp only[Mut,cy,List.not_mem_nil,or_false] at e;rcases e with rfl|rfl|rfl|rfl|rfl|rfl|rfl|rfl|rfl
 ·exact h.nd a
 ·exact h.pr.nd a
 ·exact h.sa.nd a
 ·exact h.qu.nd a
 ·exact h.bu.nd a
 ·exact h.bo.nd a
 ·exact h.se.nd a
 ·exact h.ev.nd a
 ·exact h.me.nd a
def U0{l:List Ai}{s:St}{data:List Int}(h:s.AG.length=4):(DS l s data).AG.length=4:=by
 cases a:CM l (s.pc-1) with
 |none=>rw[Mt a];exact h
 |some x=>
  rw[Mu a];unfold Dd;split
  ·split<;>simp[D2,h]
  ·exact h
def Xa{R:List Int}(h:R.length=4):R=[R.getD 0 0,R.getD 1 0,R.getD 2 0,R.getD 3 0]:=by
 match R,h with
 | [a,b,c,d],_=>rfl
def Ta:EG 130:=fun _ _=>by kernel_rfl
def Iu(B:Nat)(w:bY)(D:Nat→Prop)(g:Nat)(d:Ad)(a:Hd)(s:Ae)(i:Nat)(vd:a6)(data:List Int)(R:Gl B w)(h:PA w D g d a s)(ok:Ah d s)(N:i<d.procs.length)(Q:Af U w 0 vd data)(aL:data.length≤1000):
  cB prog 94 #[G (Z ⟨g,0,O⟩),I J i,vd] w fun e w'=>e=.returned (.tuple #[])∧PA w' D g d a (Co d i data s)∧Upd (Mut g a) w w':=by
 have r:i<s.procs.length:=by have:=ok.procs;omega
 have ae:0<s.procs.length:=by omega
 have ai:=h.FC ae;have ab:=h.lt;have aP:=qC ai ab;have aJ:=h.pr.cap;have q:=h.pr.lt;have ay:0<d.procs.length:=by omega
 have ah:=h.GW ay;have aO:=qC ah ab;have aI:=h.Ay.cap;have aw:=h.Ay.lt;obtain⟨y,z,r2,r3,ag,p⟩:=h.pr.el i r;obtain⟨nm,vc,aa,M⟩:=h.Ay.el i N;have t:=ok.pr s.procs[i] (bO r);have P:=ok.ok.pc d.procs[i] (bO N);have yc:w.cell? ⟨a.Ay.b,i*5+4,O⟩=Z vc:=aa 4 _ rfl;have y0:w.cell? ⟨a.pr.b,i*12+1,O⟩=Z (I J s.procs[i].s.pc):=p 1 _ rfl;have y1:w.cell? ⟨a.pr.b,i*12+2,O⟩=Z (I J s.procs[i].s.left):=p 2 _ rfl;have y2:w.cell? ⟨a.pr.b,i*12+3,O⟩=Z (I U y):=p 3 _ rfl;have y3:w.cell? ⟨a.pr.b,i*12+4,O⟩=Z (I U z):=p 4 _ rfl;have y4:w.cell? ⟨a.pr.b,i*12+5,O⟩=Z (I U r2):=p 5 _ rfl;have y5:w.cell? ⟨a.pr.b,i*12+6,O⟩=Z (I U r3):=p 6 _ rfl;have aQ:=qC y0 q;have aR:=qC y1 q;have aS:=qC y2 q;have aT:=qC y3 q;have aU:=qC y4 q;have aV:=qC y5 q;obtain⟨A,E,rfl,_,_⟩:=M.1.open_;have aW:=qC yc aw;obtain⟨C,F,rfl,_,_,_⟩:=Q.open_;have S:Hq (∀ W,Bl w W→cB prog 130 #[.slice A d.procs[i].code.length E,.agg #[I J s.procs[i].s.pc,I J s.procs[i].s.left,I U y,I U z,I U r2,I U r3],Y C data.length F] W (Hb W (DS d.procs[i].code s.procs[i].s data))):=fun W m=>by
  have:=UF B (.slice A d.procs[i].code.length E) (Y C data.length F) d.procs[i].code s.procs[i].s data W (R.below m) (M.1.below m) ⟨P.len,P.ops⟩ (by have:=t.pc;omega) (by have:=t.pc;omega) t.AG (Q.below m) (by omega);have e:DE s.procs[i].s=.agg #[I J s.procs[i].s.pc,I J s.procs[i].s.left,I U y,I U z,I U r2,I U r3]:=by
   unfold DE;rw[ag];rfl
  rwa [e] at this
 have X:=HH (U0 (l:=d.procs[i].code) (data:=data) t.AG);have V:Hq (Co d i data s={s with procs:=s.procs.set i {s.procs[i] with s:=DS d.procs[i].code s.procs[i].s data}}):=by
  show Co d i data s=_;rw[Co,getD_at _ _ r,Hp,getD_at _ _ N]
 have aM:(i:Int)<(s.procs.length:Int):=by omega
 have aN:(i:Int)<(d.procs.length:Int):=by omega
 have H:=HH h;generalize DS d.procs[i].code s.procs[i].s data=n at S X V;clear h ok p aa M t P Q ag R ai ah yc y0 y1 y2 y3 y4 y5;rw[V.o];go_enter func94,ntmps94;refine AS 29 [28] [] [(25,fun v _=>v=.agg #[I J n.pc,I J n.left,I U (n.AG.getD 0 0),I U (n.AG.getD 1 0),I U (n.AG.getD 2 0),I U (n.AG.getD 3 0)])] ⟨Ch,trivial⟩ ?_
 iterate 25 (refine An rfl rfl rfl ?_;intro K hK;go_big_quiet_op;go_big_quiet_on)
 refine A9 rfl rfl (fun w' m hA=>?_) ?_
 ·refine AD (f:=130) (al:=[.slice A d.procs[i].code.length E,.agg #[I J s.procs[i].s.pc,I J s.procs[i].s.left,I U y,I U z,I U r2,I U r3],Y C data.length F]) rfl rfl rfl Ta ?_;exact(S.o w' m).mono fun e w2 h=>⟨_,h.1,h.2,rfl⟩
 intro v w' m hv;obtain rfl:=hv;clear m w';simp only[Au,aX,a2,a1]
 iterate 2 (refine An rfl rfl rfl ?_;intro K hK;go_big_quiet_op;go_big_quiet_on)
 refine AH rfl ?_;refine AR ?_;intro j L aA;clear aA;have u:=H.o.below L;have k:∀ o,j.frozen? ⟨a.pr.b,o,O⟩=false:=u.pr.frozen ae;obtain⟨t0,t1,t2,t3,_,c⟩:=u.pr.el i r;have z0:j.cell? ⟨a.pr.b,i*12+1,O⟩=Z _:=c 1 _ rfl;have f0:=k (i*12+1);have z1:j.cell? ⟨a.pr.b,i*12+2,O⟩=Z _:=c 2 _ rfl;have f1:=k (i*12+2);have z2:j.cell? ⟨a.pr.b,i*12+3,O⟩=Z _:=c 3 _ rfl;have f2:=k (i*12+3);have z3:j.cell? ⟨a.pr.b,i*12+4,O⟩=Z _:=c 4 _ rfl;have f3:=k (i*12+4);have z4:j.cell? ⟨a.pr.b,i*12+5,O⟩=Z _:=c 5 _ rfl;have f4:=k (i*12+5);have z5:j.cell? ⟨a.pr.b,i*12+6,O⟩=Z _:=c 6 _ rfl;have f5:=k (i*12+6);obtain⟨H9,av,au⟩:=H3 u c L;clear u c L k;refine AI (w':=((((((j.setCell ⟨a.pr.b,i*12+1,O⟩ (I J n.pc)).setCell ⟨a.pr.b,i*12+2,O⟩ (I J n.left)).setCell ⟨a.pr.b,i*12+3,O⟩ (I U (n.AG.getD 0 0))).setCell ⟨a.pr.b,i*12+4,O⟩ (I U (n.AG.getD 1 0))).setCell ⟨a.pr.b,i*12+5,O⟩ (I U (n.AG.getD 2 0))).setCell ⟨a.pr.b,i*12+6,O⟩ (I U (n.AG.getD 3 0)))) (by simp[ch,go_sem,z0,f0,z1,f1,z2,f2,z3,f3,z4,f4,z5,f5]) ?_;unfold A7;go_wp2_with fail
 go_end0
 have hp:=H9.o.FY r [(1,I J n.pc),(2,I J n.left),(3,I U (n.AG.getD 0 0)),(4,I U (n.AG.getD 1 0)),(5,I U (n.AG.getD 2 0)),(6,I U (n.AG.getD 3 0))] rfl av.o (x:={s.procs[i] with s:=n}) fun w' ax _=>⟨_,_,_,_,Xa X.o,ax⟩;exact⟨rfl,hp.1,(Upd.below au.o).trans hp.2⟩
def Ah.G4{d:Ad}{s:Ae}(h:Ah d s)(i:Nat){x:BA}(b:D5 x):Ah d {s with procs:=s.procs.set i x}:=
 {h with
  procs:=by simpa using h.procs
  pr:=fun y a=>by
   rcases b7 a with a|rfl
   ·exact h.pr y a
   ·exact b}
def D5.ready{x:BA}(h:D5 x){t:Int}(a:0≤t)(b:t≤4294967296):D5 (readyR t x):=
 {h with since:=⟨a,b⟩}
def Le{l:List Int}(h:Bf l)(i:Nat){v:Int}(b:0≤v∧v≤255):Bf (l.set i v):=fun z a=>by
 rcases b7 a with a|rfl
 ·exact h z a
 ·exact b
def X9{l:List Int}(h:Bf l):0≤l.headD 0∧l.headD 0≤255:=by
 cases l with
 |nil=>decide
 |cons x l=>exact h x (aY ..)
def UA{x:Ai}{s:St}{data:List Int}(e:Bf data)(a:s.AG.length=4)(d:Bf s.AG):(Dd x s data).AG.length=4∧Bf (Dd x s data).AG∧(Dd x s data).pc=s.pc∧(Dd x s data).left=s.left:=by
 unfold Dd;split
 ·have c:Bf (s.AG.set x.b.toNat (data.headD 0)):=Le d _ (X9 e);split
  ·refine⟨by simp[D2,a],?_,rfl,rfl⟩;exact Le c _ (by omega)
  ·exact⟨by simp[D2,a],c,rfl,rfl⟩
 ·exact⟨a,d,rfl,rfl⟩
def U6{l:List Ai}{s:St}{data:List Int}(d:Bf data)(a:s.AG.length=4)(c:Bf s.AG):(DS l s data).AG.length=4∧Bf (DS l s data).AG∧(DS l s data).pc=s.pc∧(DS l s data).left=s.left:=by
 cases b:CM l (s.pc-1) with
 |none=>rw[Mt b];exact⟨a,c,rfl,rfl⟩
 |some x=>rw[Mu b];exact UA d a c
def D5.Fq{d:Ad}{i:Nat}{x:BA}{data:List Int}(h:D5 x)(f:Bf data):D5 (Hp d i data x):=by
 obtain⟨a,b,c,e⟩:=U6 (l:=(d.procs.getD i default).code) f h.AG h.bytes;exact⟨a,b,by unfold Hp;rw[c];exact h.pc,by unfold Hp;rw[e];exact h.left,h.since,h.release,h.deadline⟩
def Ah.at_{d:Ad}{s:Ae}(h:Ah d s){i:Nat}(a:i<s.procs.length):D5 (s.procs.getD i default):=by
 rw[cw,cz a];exact h.pr _ (bO a)
def Ah.Fq{d:Ad}{s:Ae}(h:Ah d s){i:Nat}(b:i<s.procs.length){data:List Int}(a:Bf data):Ah d (Co d i data s):=h.G4 i ((h.at_ b).Fq a)
def Ah.ready{d:Ad}{s:Ae}(h:Ah d s){i:Nat}(c:i<s.procs.length){t:Int}(a:0≤t)(b:t≤4294967296):Ah d (En i t s):=h.G4 i ((h.at_ c).ready a b)
def KP{d:Ad}{s:Ae}{i:Nat}{data:List Int}:(Co d i data s).procs.length=s.procs.length:=by simp[Co]
def Yt{s:Ae}{i:Nat}{t:Int}:(En i t s).procs.length=s.procs.length:=by simp[En]
def Ah.CT{d:Ad}{s:Ae}(h:Ah d s){i:Int}(e:i<(s.procs.length:Int)){data:List Int}(c:Bf data){t:Int}(a:0≤t)(b:t≤4294967296):Ah d (CT d t data s i):=by
 unfold Go.Proofs.YtiepijihpgijbaaGreatDoor.CT;split
 ·exact(h.Fq (by omega) c).ready (by rw[KP];omega) a b
 ·exact h
def L8{d:Ad}{s:Ae}{i t:Int}{data:List Int}:(CT d t data s i).procs.length=s.procs.length:=by
 unfold CT;split
 ·rw[Yt,KP]
 ·rfl
def Ah.IF{d:Ad}{data:List Int}(e:Bf data){t:Int}(a:0≤t)(b:t≤4294967296):∀ (l:List Int) {s:Ae},Ah d s→(∀ i∈l,i<(s.procs.length:Int))→Ah d (wakeP d t data l s)∧(wakeP d t data l s).procs.length=s.procs.length
 | [],s,h,_=>⟨h,rfl⟩
 |i::l,s,h,f=>by
  have c:=Ah.IF e a b l (h.CT (f i (aY ..)) e a b) (fun j g=>by rw[L8];exact f j (bK _ g));exact⟨c.1,c.2.trans L8⟩
def Z9{d:Ad}{t:Int}{data l:List Int}{i:Int}{s:Ae}:wakeP d t data (l++ [i]) s=CT d t data (wakeP d t data l s) i:=by
 simp[wakeP,List.foldl_append]
def Fj(w:bY)(D:Nat→Prop)(v:a6)(l:List Int):Prop:=Af J w 0 v l∧Ct D v
def Fj.Ag{w w':bY}{D:Nat→Prop}{v:a6}{l:List Int}(h:Fj w D v l)(a:KeepD D w w'):Fj w' D v l:=⟨I6 h.1 h.2 a,h.2⟩
def Fj.below{w w':bY}{D:Nat→Prop}{v:a6}{l:List Int}(h:Fj w D v l)(a:Bl w w'):Fj w' D v l:=h.Ag (.C9 a)
def A4.below{w w':bY}{D:Nat→Prop}{v:a6}{l:List Int}(h:A4 w D v l)(a:Bl w w'):A4 w' D v l:=h.Ag (.C9 a)
def IG(B:Nat)(w:bY)(D:Nat→Prop)(g:Nat)(d:Ad)(a:Hd)(s:Ae)(t:Int)(N vl:a6)(data l:List Int)(P:Gl B w)(S:∀ b∈Mut g a,B≤b)(h:PA w D g d a s)(ok:Ah d s)
  (hr:A4 w (NM g a) N data) (C:Fj w (NM g a) vl l) (aA:data.length≤1000) (V:Bf data) (aP:l.length≤1000) (ab:∀ i∈l,i<(s.procs.length:Int)) (aC:0≤t) (aD:t≤4294967296):
  cB prog 50 #[G (Z ⟨g,0,O⟩),I J t,N,vl] w fun e w'=>e=.returned (.tuple #[])∧PA w' D g d a (wakeP d t data l s)∧Upd (Mut g a) w w':=by
 obtain⟨al,cl,rfl,aO,_,_⟩:=C.1.open_;obtain⟨HG,HM,H0,HR,HL,HB,Q,aq⟩:=H8 P S h hr C V ab ok;have h6:s.procs.length≤6:=by have:=ok.procs;have:=ok.ok.procs;omega
 have ac:d.procs.length=s.procs.length:=ok.procs.symm;have ar:=HH ac;clear P S h hr C V ab ok ac;go_enter func50,ntmps50;go_wp2_with fail
 go_loopw [9,12] (fun _ v wr=>∃ k:Nat,k≤l.length∧v=I J k∧Hq (PA wr D g d a (wakeP d t data (l.take k) s)∧Upd (Mut g a) w wr)) (fun _ v _=>l.length-(intOf v).toNat)
 case atStart=>exact⟨0,ct _,rfl,H0.o,Upd.refl _ _⟩
 case round=>
  obtain⟨k,hk,rfl,A⟩:=hrel;by_cases F:k<l.length
  ·obtain⟨n,c⟩:=A.o;have aN:(k:Int)<(l.length:Int):=by omega
   have aK:(k:Int)<(cl:Int):=by omega
   have E:=HL.o.Ag (KeepD.nm c);obtain⟨a',c',X,_,_,H⟩:=E.1.open_;simp only[bX] at X;obtain⟨rfl,_,rfl⟩:=X;obtain⟨bl,ol,rfl,_,aJ,x⟩:=H (by omega);have yk:=x k F;have aa:=Q.o l[k] (bO F);have f:=(Ah.IF HB.o aC aD (l.take k) aq.o (fun j hj=>Q.o j (List.mem_of_mem_take hj)));have L:wakeP d t data (l.take (k+1)) s=CT d t data (wakeP d t data (l.take k) s) l[k]:=by
    rw[List.take_succ_eq_append_getElem F,Z9]
   have u:=HG.o.BG c HM.o;have K:=(HR.o.Ag (KeepD.nm c)).1;have R:=HH L;by_cases M:0≤l[k]
   ·obtain⟨i,y⟩:∃ i:Nat,l[k]=(i:Int):=⟨l[k].toNat,by omega⟩;have hid:i<d.procs.length:=by rw[ar.o];omega
    have m:CT d t data (wakeP d t data (l.take k) s) l[k]=En i t (Co d i data (wakeP d t data (l.take k) s)):=by
     rw[CT,if_pos M,y,cc]
    have HC:=HH (Iu B wr D g d a _ i N data u n f.1 hid K aA);have ak:Hq (∀ W,PA W D g d a (Co d i data (wakeP d t data (l.take k) s))→cB prog 71 #[G (Z ⟨g,0,O⟩),I J i,I J t] W fun e w'=>e=.returned (.tuple #[])∧PA w' D g d a (En i t (Co d i data (wakeP d t data (l.take k) s)))∧Upd (Mut g a) W w'):=fun W hW=>
     Qk W D g d a _ i t hW (by rw[KP,f.2];omega) (by rw[KP,f.2];exact h6)
    have HU:=HH c;rw[y] at yk;have aL:(0:Int)≤(i:Int):=by omega
    have r:=HH m;clear n c E H x f L u K m aa A M y hid;go_wp2_with fail;refine HC.o.mono ?_;rintro e w1 ⟨rfl,p1,u1⟩;obtain⟨am,aw⟩:=H2 (ak.o w1 p1) (HU.o.trans u1);clear p1 u1;go_wp2_with fail;refine am.o.mono ?_;rintro e w2 ⟨rfl,p2,u2⟩;obtain⟨p,q⟩:=H2 p2 (aw.o.trans u2);clear p2 u2;go_wp2_with fail
    go_roundw
    case rel=>exact⟨k+1,by omega,by go_num,by rw[R.o,r.o];exact p.o,q.o⟩
    case measure=>simp[intOf];omega
   ·have m:CT d t data (wakeP d t data (l.take k) s) l[k]=wakeP d t data (l.take k) s:=by
     rw[CT,if_neg M]
    obtain⟨r,p,q⟩:=H3 m n c;generalize l[k]=z at*;clear n c E H x f L u K m aa A;go_wp2_with fail
    go_roundw
    case rel=>exact⟨k+1,by omega,by go_num,by rw[R.o,r.o];exact p.o,q.o⟩
    case measure=>simp[intOf];omega
  ·obtain rfl:k=l.length:=by omega
   go_wp2_with fail
   go_end0
   have:=A.o;rw[List.take_length] at this;exact⟨rfl,this⟩
def Bz.tail{n:Nat}{x:Wt}{l:List Wt}(h:Bz n (x::l)):Bz n l:=⟨by have:=h.1;simp at this;exact this.2,fun y a=>h.2 y (bK _ a)⟩
def Bz.nil(n:Nat):Bz n []:=⟨by simp,fun x a=>by cases a⟩
def Bz.leave{n:Nat}{l:List Wt}(h:Bz n l)(p:Int):Bz n (leaveW l p):=by
 refine⟨?_,fun y a=>h.2 y (List.mem_filter.1 a).1⟩;have:(leaveW l p).map (·.proc)=(l.map (·.proc)).filter fun q=>!decide (q=p):=by
  simp[leaveW,List.filter_map];rfl
 rw[this];exact h.1.filter _
def M9(l:List Wt)(i:Nat)(x:Wt):(D9 l i x).Perm (x::l):=by
 unfold D9;have:=List.perm_middle (a:=x) (l₁:=l.take i) (l₂:=l.drop i);simpa using this
def Bz.enter{n:Nat}{l:List Wt}(h:Bz n l){x:Wt}(c:0≤x.proc)(d:x.proc<(n:Int))(i:∀ y∈l,y.proc≠x.proc):Bz n (Cl l x):=by
 have b:=M9 l (l.findIdx fun y=>decide (y.prio<x.prio)) x;refine⟨?_,fun y a=>?_⟩
 ·have f:=(b.map (·.proc)).nodup_iff;refine f.2 ?_;simp only[List.map_cons,List.nodup_cons];refine⟨fun g=>?_,h.1⟩;obtain⟨y,a,e⟩:=cC.1 g;exact i y a e
 ·have:=b.mem_iff.1 a;rcases cy.1 this with rfl|a
  ·exact⟨c,d⟩
  ·exact h.2 y a
def Lc{l:List Wt}{p:Int}(h:Cw l p=true):∀ y∈l,y.proc≠p:=fun y a e=>by
 simp only[Cw,bZ,ca,cq] at h;have:=h.2 y a;simp[e] at this
def Qy{n:Nat}{c:Int}{l:List Wt}(h:Bz n l):(Dm c l).2.2.1<(n:Int):=by
 unfold Dm;split
 ·show(-1:Int)<n;omega
 ·split
  ·exact(h.2 _ (aY ..)).2
  ·split
   ·show(-1:Int)<n;omega
   ·show(-1:Int)<n;omega
def Qx{n:Nat}{c:Int}{l:List Wt}(h:Bz n l):Bz n (Dm c l).2.1:=by
 unfold Dm;split
 ·exact h
 ·split
  ·exact h.tail
  ·split<;>exact .nil n
def waitS_w{n:Nat}{c:Int}{l:List Wt}{p r:Int}(h:Bz n l)(a:0≤p)(b:p<(n:Int)):Bz n (Eb c l p r).2.1:=by
 unfold Eb;split
 ·exact h
 ·rename_i d;split
  ·exact h
  ·refine h.enter a b (Lc ?_);cases e:Cw l p with
   |true=>rfl
   |false=>exact absurd (.inr e) d
def untilE_w{n:Nat}{u:Bool}{l:List Wt}{p r:Int}(h:Bz n l)(a:0≤p)(b:p<(n:Int)):Bz n (Es u l p r).1:=by
 unfold Es;split
 ·exact h
 ·rename_i c;split
  ·exact h
  ·refine h.enter a b (Lc ?_);cases d:Cw l p with
   |true=>rfl
   |false=>exact absurd (.inr d) c
def Qc{n:Nat}{u:Bool}{l:List Wt}(h:Bz n l):Bz n (DC u l).2.1∧(∀ i∈(DC u l).2.2.1,i<(n:Int))∧(DC u l).2.2.1.length≤n:=by
 unfold DC;split
 ·exact⟨h,fun i a=>(by cases a),by simp⟩
 ·refine⟨.nil n,fun i a=>?_,?_⟩
  ·obtain⟨x,b,rfl⟩:=cC.1 a;exact(h.2 x b).2
  ·have:=h.len;simpa using this
def Qt{n:Nat}{b:Bool}{x v:Int}{l:List Wt}(h:Bz n l):Bz n (Dh b x l v).2.2.1∧(∀ i∈(Dh b x l v).2.2.2.1,i<(n:Int))∧(Dh b x l v).2.2.2.1.length≤n:=by
 unfold Dh;split
 ·exact⟨h,fun i a=>(by cases a),by simp⟩
 ·refine⟨.nil n,fun i a=>?_,?_⟩
  ·obtain⟨x,c,rfl⟩:=cC.1 a;exact(h.2 x c).2
  ·have:=h.len;simpa using this
def Pv{n:Nat}{b:Bool}{x:Int}{l:List Wt}{p r:Int}(h:Bz n l)(a:0≤p)(c:p<(n:Int)):Bz n (lookBd b x l p r).1:=by
 unfold lookBd;split
 ·exact h
 ·rename_i d;split
  ·exact h
  ·refine h.enter a c (Lc ?_);cases e:Cw l p with
   |true=>rfl
   |false=>exact absurd (.inr e) d
def Hc.PU{n:Nat}{x:AT}(h:Hc n x){q r v:Int}(j:0≤q)(k:q<(n:Int))(i:0≤v∧v≤255):
  Hc n ⟨x.depth,(Cb x.depth x.data x.put x.get q r v).1,(Cb x.depth x.data x.put x.get q r v).2.1,(Cb x.depth x.data x.put x.get q r v).2.2.1⟩∧(Cb x.depth x.data x.put x.get q r v).2.2.2.2.1<(n:Int):=by
 by_cases a:(Ci x.depth x.data x.put x.get && CQ x.put x.get q)=false
 ·rw[PW a];exact⟨h,by show(-1:Int)<n;omega⟩
 ·have a:(Ci x.depth x.data x.put x.get && CQ x.put x.get q)=true:=by simpa using a
  have l:∀ y∈x.put++x.get,y.proc≠q:=fun y b e=>by
   simp only[bZ,CQ,ca,cq] at a;have:=a.2.2 y b;simp[e] at this
  have o:x.depth≤16:=by
   simp only[bZ,Ci,decide_eq_true_eq] at a;omega
  cases c:x.get with
  |cons y m=>
   have f:=h.get;rw[c] at f;rw[←c,Qb a c];exact⟨⟨h.len,h.bytes,h.put,f.tail,h.ID⟩,(f.2 y (aY ..)).2⟩
  |nil=>
   rw[←c];by_cases g:(x.data.length:Int)<x.depth
   ·rw[PY a c g];refine⟨⟨by simp;omega,fun z d=>?_,h.put,.nil n,h.ID⟩,by show(-1:Int)<n;omega⟩;rcases cu.1 d with d|d
    ·exact h.bytes z d
    ·simp at d;subst d;exact i
   ·rw[Qa a c g];refine⟨⟨h.len,h.bytes,h.put.enter j k (fun y b=>l y (List.mem_append_left _ b)),.nil n,fun y b=>?_⟩,by show(-1:Int)<n;omega⟩;have:=(M9 x.put (x.put.findIdx fun y=>decide (y.prio<r)) ⟨q,r,v⟩).mem_iff.1 b;rcases cy.1 this with rfl|b
    ·exact i
    ·exact h.ID y b
def Hc.OG{n:Nat}{x:AT}(h:Hc n x){q r:Int}(l:0≤q)(o:q<(n:Int)):
  Hc n ⟨x.depth,(getBu x.depth x.data x.put x.get q r).1,(getBu x.depth x.data x.put x.get q r).2.1,(getBu x.depth x.data x.put x.get q r).2.2.1⟩∧(getBu x.depth x.data x.put x.get q r).2.2.2.2.2.1<(n:Int)∧0≤(getBu x.depth x.data x.put x.get q r).2.2.2.1∧(getBu x.depth x.data x.put x.get q r).2.2.2.1≤255:=by
 by_cases b:(Ci x.depth x.data x.put x.get && CQ x.put x.get q)=false
 ·rw[OI b];exact⟨h,by show(-1:Int)<n;omega,Int.le_refl 0,by show(0:Int)≤255;decide⟩
 ·have b:(Ci x.depth x.data x.put x.get && CQ x.put x.get q)=true:=by simpa using b
  have p:∀ y∈x.put++x.get,y.proc≠q:=fun y c e=>by
   simp only[bZ,CQ,ca,cq] at b;have:=b.2.2 y c;simp[e] at this
  cases d:x.data with
  |nil=>
   rw[←d,OL b d];exact⟨⟨by simp,fun z s=>(by cases s),h.put,h.get.enter l o (fun y c=>p y (List.mem_append_right _ c)),h.ID⟩,by show(-1:Int)<n;omega,Int.le_refl 0,by show(0:Int)≤255;decide⟩
  |cons y t=>
   have k:=h.len;have g:=h.bytes;rw[d] at k g;have c:=g y (aY ..);cases f:x.put with
   |cons z m=>
    have i:=h.put;have j:=h.ID;rw[f] at i j;rw[←d,←f,OM b d f];refine⟨⟨by simp at k ⊢;omega,fun u a=>?_,i.tail,h.get,fun u a=>j u (bK _ a)⟩,(i.2 z (aY ..)).2,c.1,c.2⟩;rcases cu.1 a with a|a
    ·exact g u (bK _ a)
    ·simp at a;subst a;exact j z (aY ..)
   |nil=>
    rw[←d,←f,OJ b d f];exact⟨⟨by simp at k ⊢;omega,fun u a=>g u (bK _ a),.nil n,h.get,fun u a=>by cases a⟩,by show(-1:Int)<n;omega,c.1,c.2⟩
def FK.Ng{n:Nat}{x:AO}(h:FK n x){k s d r:Int}{m:List Int}(f:m.length≤64∧Bf m):
  FK n ⟨(sendQ k s d r x.q x.wait x.lost m).1,(sendQ k s d r x.q x.wait x.lost m).2.1,(sendQ k s d r x.q x.wait x.lost m).2.2.1⟩∧(sendQ k s d r x.q x.wait x.lost m).2.2.2.1<(n:Int):=by
 unfold sendQ;split
 ·exact⟨h,by show(-1:Int)<n;omega⟩
 ·rename_i e;split
  ·exact⟨h,by show(-1:Int)<n;omega⟩
  ·split
   ·rename_i y l g;have b:=h.wait;rw[g] at b;exact⟨⟨h.len,h.msg,b.tail⟩,(b.2 y (aY ..)).2⟩
   ·split
    ·exact⟨⟨h.len,h.msg,.nil n⟩,by show(-1:Int)<n;omega⟩
    ·rename_i j;have c:BP k s d r x.q x.wait x.lost=true:=by
      cases c:BP k s d r x.q x.wait x.lost with
      |true=>rfl
      |false=>exact absurd (.inl c) e
     have i:(x.q.length:Int)<16:=by
      simp only[BP,Fm,Ey,bZ,ca,Bool.or_eq_false_iff,decide_eq_false_iff_not] at c;omega
     refine⟨⟨by simp;omega,fun z a=>?_,.nil n⟩,by show(-1:Int)<n;omega⟩;rcases cu.1 a with a|a
     ·exact h.msg z a
     ·simp at a;subst a;exact f
def FK.Ql{n:Nat}{x:AO}(h:FK n x){k s d r p u:Int}(f:0≤p)(g:p<(n:Int)):
  FK n ⟨(recvQ k s d r x.q x.wait x.lost p u).1,(recvQ k s d r x.q x.wait x.lost p u).2.1,x.lost⟩∧(recvQ k s d r x.q x.wait x.lost p u).2.2.1.length≤64∧Bf (recvQ k s d r x.q x.wait x.lost p u).2.2.1:=by
 unfold recvQ;split
 ·exact⟨h,by simp,fun z a=>by cases a⟩
 ·rename_i i;split
  ·rename_i m t l;have b:=h.msg;have c:=h.len;rw[l] at b c;have e:=b m (aY ..);exact⟨⟨by simp at c ⊢;omega,fun z a=>b z (bK _ a),h.wait⟩,e.1,e.2⟩
  ·refine⟨⟨by simp,fun z a=>(by cases a),h.wait.enter f g (Lc ?_)⟩,by simp,fun z a=>by cases a⟩;cases j:Cw x.wait p with
   |true=>rfl
   |false=>exact absurd (.inr j) i
def mem_set{α:Type}{P:α→Prop}{l:List α}(h:∀ x∈l,P x)(i:Nat){v:α}(b:P v):∀ x∈l.set i v,P x:=fun x a=>by
 rcases b7 a with a|rfl
 ·exact h x a
 ·exact b
def Ah.Nk{d:Ad}{s:Ae}(h:Ah d s)(k:Nat){x:BU}(a:Bz d.procs.length x.wait):Ah d {s with semas:=s.semas.set k x}:={h with semas:=by simpa using h.semas,se:=mem_set h.se k a}
def Ah.Lq{d:Ad}{s:Ae}(h:Ah d s)(k:Nat){x:C3}(a:Bz d.procs.length x.wait):Ah d {s with events:=s.events.set k x}:={h with events:=by simpa using h.events,ev:=mem_set h.ev k a}
def Ah.Km{d:Ad}{s:Ae}(h:Ah d s)(k:Nat){x:BE}(a:Bz d.procs.length x.wait):Ah d {s with boards:=s.boards.set k x}:={h with boards:=by simpa using h.boards,bo:=mem_set h.bo k a}
def Ah.Lp{d:Ad}{s:Ae}(h:Ah d s)(k:Nat){x:AT}(a:Hc d.procs.length x):Ah d {s with bufs:=s.bufs.set k x}:={h with bufs:=by simpa using h.bufs,bu:=mem_set h.bu k a}
def Ah.Ko{d:Ad}{s:Ae}(h:Ah d s)(k:Nat){x:AO}(a:FK d.procs.length x):Ah d {s with queues:=s.queues.set k x}:={h with queues:=by simpa using h.queues,qu:=mem_set h.qu k a}
def Ah.Nj{d:Ad}{s:Ae}(h:Ah d s)(k:Nat){x:Ee}(a:K6 x):Ah d {s with samples:=s.samples.set k x}:={h with samples:=by simpa using h.samples,sa:=mem_set h.sa k a}
def Bh(B:Nat)(zc:Array a6)(a:cs)(v:a6)(w:bY):Prop:=∃ q,B≤q∧v=G (Z ⟨q,0,O⟩)∧w.heap[q]? =Z (T zc a (0,0))
def Bh.AX{B:Nat}{zc:Array a6}{b:cs}:DO (Bh B zc b):=fun _ _ _ ⟨q,c,d,a⟩ e=>⟨q,c,d,(e.block _ (Aa a)).trans a⟩
def Bh.at_{B q:Nat}{zc:Array a6}{b:cs}{w:bY}(h:Bh B zc b (G (Z ⟨q,0,O⟩)) w):B≤q∧w.heap[q]? =Z (T zc b (0,0)):=by
 obtain⟨e,c,a,d⟩:=h;injection a with a;injection a with a;injection a with a;subst a;exact⟨c,d⟩
def Er(a:Array a6):List (Nat×a6)→Array a6
 | []=>a
 |x::r=>Er (a.setIfInBounds x.1 x.2) r
def Di{q:Nat}{b:cs}:∀ (r:List (Nat×a6)) {w:bY} {a:Array a6},w.heap[q]? =Z (T a b (0,0))→(setsAt w q 0 r).heap[q]? =Z (T (Er a r) b (0,0))
 | [],_,_,h=>h
 |x::r,w,a,h=>by
  have:=Di r (heap_setCell_same w q (0+x.1) _ _ x.2 h);rw[cD] at this;rw[setsAt,cD];exact this
def DH{q B:Nat}(b:B≤q){w W:bY}(h:Below B w W)(r:List (Nat×a6)):Below B w (setsAt W q 0 r):=
 ⟨(Be r W).1.trans h.os,(Be r W).2.1.trans h.tape,(Be r W).2.2.trans h.output,by rw[BO];exact h.size,fun k a=>(AU (by omega) r W).trans (h.block k a)⟩
def MA{q:Nat}{B:Nat}(w:bY)(r:List (Nat×a6)):KeepD (fun b=>B≤b∧b≠q) w (setsAt w q 0 r):=⟨by rw[BO];exact cb _,fun b a _=>AU a.2 r w⟩
def E9{w:bY}{B q sz n:Nat}{t f:cs}{v:a6}{x:List a6}{i:Array a6}{j:Nat×Nat}(h:Ty w B t sz v n x)(d:w.heap[q]? =Z (T i f j))(s:f≠t):Ct (fun b=>B≤b∧b≠q) v:=fun a m c u E=>by
 obtain⟨y,cap,g,A,C,D,r⟩:=h;subst u;simp only[bX] at g;obtain⟨rfl,rfl,rfl⟩:=g;obtain⟨b,o,z,l,k,p,_⟩:=r (by omega);cases l;exact⟨k,fun e=>by
  subst e;rw[p] at d;simp only[Option.some.injEq,Obj.cells.injEq] at d;exact s d.2.1.symm⟩
def OS{w:bY}{B q:Nat}{v:a6}{l:List Wt}{i:cs}{d:Array a6}(h:Aq w B v l)(r:w.heap[q]? =Z (T d i (0,0)))(x:d.size≤2):Ct (fun b=>B≤b∧b≠q) v:=fun a m c s f=>by
 obtain⟨t,cap,g,_,_,p⟩:=h.1.open_;subst s;simp only[bX] at g;obtain⟨rfl,rfl,rfl⟩:=g;obtain⟨b,o,k,j,u,n⟩:=p f;cases k;refine⟨j,fun e=>?_⟩;replace e:b=q:=e;subst e;have:=(n 0 f).2.2;rw[Cr r] at this;have:=(Array.getElem?_eq_some_iff.1 this).1;omega
def Gb{w W:bY}{D:Nat→Prop}{q:Nat}{v:a6}{l:List Wt}{r:List (Nat×a6)}(h:Al W 0 v l)(d:Ct (fun b=>w.heap.size≤b∧b≠q) v)(a:∀ b,w.heap.size≤b→D b):Bm (setsAt W q 0 r) D v l:=
 (Bm.Ag ⟨h,d⟩ (MA W r)).mono fun b c=>a b c.1
def Ny{w W:bY}{D:Nat→Prop}{q:Nat}{v:a6}{l:List Int}{r:List (Nat×a6)}(h:Af U W 0 v l)(d:Ct (fun b=>w.heap.size≤b∧b≠q) v)(a:∀ b,w.heap.size≤b→D b):A4 (setsAt W q 0 r) D v l:=
 (A4.Ag ⟨h,d⟩ (MA W r)).mono fun b c=>a b c.1
def QL{w W:bY}{D:Nat→Prop}{q:Nat}{v:a6}{l:List Int}{r:List (Nat×a6)}(h:Af J W 0 v l)(e:Ct (fun b=>w.heap.size≤b∧b≠q) v)(c:∀ b,w.heap.size≤b→D b):Fj (setsAt W q 0 r) D v l:=by
 have a:=Fj.Ag ⟨h,e⟩ (MA W r);exact⟨a.1,a.2.mono fun b d=>c b d.1⟩
def One(B:Nat)(x:a6)(a:cs)(v:a6)(w:bY):Prop:=∃ q,B≤q∧v=Y (Z ⟨q,0,O⟩) 1 1∧w.heap[q]? =Z (T #[x] a (0,0))
def One.AX{B:Nat}{x:a6}{b:cs}:DO (One B x b):=fun _ _ _ ⟨q,c,d,a⟩ e=>⟨q,c,d,(e.block _ (Aa a)).trans a⟩
def One.sl{B:Nat}{x:a6}{f:cs}{v:a6}{w:bY}(h:One B x f v w){D:Nat→Prop}(i:∀ b,B≤b→D b):Sl w 0 1 v 1 [x]∧Ct D v:=by
 obtain⟨q,g,rfl,e⟩:=h;refine⟨⟨_,1,rfl,cb _,by simp,by simp,fun _=>⟨q,0,rfl,ct _,Aa e,fun j u d=>?_⟩⟩,fun a n c k _=>?_⟩
 ·rw[Cr e]
  match j,d with
  |0,d=>simpa using d
 ·cases k;exact i q g
def EF{w:bY}{D:Nat→Prop}{g:Nat}{d:Ad}{a:Hd}{s:Ae}(h:PA w D g d a s){b:Nat}(e:w.heap.size≤b):NM g a b:=fun c=>by
 have:=h.Ke b c;omega
def TD:EG 119:=fun _ _=>by kernel_rfl
def Wj(B:Nat)(w:bY)(D:Nat→Prop)(g:Nat)(d:Ad)(j:Hd)(s:Ae)(kind:Int)(k:Nat)(b:Int)(data:List Int)(P:Nat)(vd:a6)(i:Nat)(now:Int)(aP:Gl B w)(hM:∀ q∈Mut g j,B≤q)(h:PA w D g d j s)(ok:Ah d s)(hj:JB w P g kind k b vd i now)(aZ:P∉Mut g j)(hD:∀ q,w.heap.size≤q→D q)(br:0≤now)(bs:now≤4294967296)(V:k<s.semas.length)(hi:i<d.procs.length):
  cB prog 80 #[G (Z ⟨P,0,O⟩)] w fun e w'=>e=.returned (.bool true)∧PA w' D g d j (Kt d now (⟨kind,k,b,data⟩:Ac) s)∧Upd (Mut g j) w w':=by
 obtain⟨C,j1,F,j3,j4,j5,N⟩:=hj.cells;have p:P<w.heap.size:=Aa hj;have ah:=qC C p;have aN:=qC F p;have aJ:0<s.semas.length:=by omega
 have ai:=h.Lw aJ;have S:=h.lt;have aO:=qC ai S;have aE:=h.se.cap;have R:=h.se.lt;have h6:=ok.ok.procs;obtain⟨v,hc,hr⟩:=h.se.el k V;obtain⟨y0,y1⟩:=cc2 hc;have bA:=qC y0 R;have bB:=qC y1 R;obtain⟨av,cv,rfl,_,_,_⟩:=hr.1.open_;have ac:=(ok.se _ (bO V));obtain⟨m,l',y,er,hw⟩:∃ m l' y er,Dm s.semas[k].count s.semas[k].wait=(m,l',y,er):=⟨_,_,_,_,rfl⟩;have HC:Hq (∀ W,Bl w W→cB prog 119 #[.agg #[I J s.semas[k].count,.slice av s.semas[k].wait.length cv]] W (IK W (I J m) l' (I J y) (I J er))):=fun W a=>by
  have:=YS s.semas[k].count (.slice av s.semas[k].wait.length cv) s.semas[k].wait W (hr.1.below a) (ac.wf h6) (by have:=ac.len;omega);rwa [hw] at this
 have HE:Hq (Kt d now (⟨kind,k,b,data⟩:Ac) s=wakeP d now [] [y] {s with semas:=s.semas.set k ⟨m,l'⟩}):=by
  show Kt d now (⟨kind,k,b,data⟩:Ac) s=_;simp only[Kt,Ia,cc,getD_at _ _ V,hw]
 have bc:Hq (Ah d {s with semas:=s.semas.set k ⟨m,l'⟩}):=ok.Nk k (by have:=Qx (c:=s.semas[k].count) ac;rw[hw] at this;exact this);have bu:y<(s.procs.length:Int):=by have:=Qy (c:=s.semas[k].count) ac;rw[hw] at this;rw[ok.procs];exact this
 clear hw hr ac;have bJ:(k:Int)<(s.semas.length:Int):=by omega
 obtain⟨H,HJ,a7,HG,HM,bb⟩:=H6 h hj hD aP hM aZ;clear h hj hD ok hc aP hM aZ C j1 F j3 j4 j5 N ai y0 y1;go_enter func80,ntmps80;go_upto_region 1 with (fail);refine AS 24 [21] [18,19,22,23] [(15,(fun v w'=>∃ l c2,v=.tuple #[.agg #[I J m,Y l l'.length c2],I J y,I J er]∧Aq w' w.heap.size (Y l l'.length c2) l')),(20,Bh w.heap.size #[I J 0,Y O 0 0] 95)] ⟨(fun v w1 w2 ⟨l,c2,e,h⟩ a=>⟨l,c2,e,h.below a⟩),Bh.AX,trivial⟩ ?_
 iterate 15 (refine An rfl rfl rfl ?_;intro K hK;go_big_quiet_op;go_big_quiet_on)
 refine A9 rfl rfl (fun w' a hA=>?_) ?_
 ·refine AD (f:=119) (al:=[.agg #[I J s.semas[k].count,.slice av s.semas[k].wait.length cv]]) rfl rfl rfl TD ?_;exact(HC.o w' a).mono fun e w2 h=>by
   obtain⟨u,he,hf,bi⟩:=h;obtain⟨l,c2,hu⟩:=Bc hf;subst hu;exact⟨_,he,bi,_,_,rfl,hf.mono a.size⟩
 intro v w' a hv;obtain⟨l,c2,rfl,bl⟩:=hv;clear a bl w';simp only[Au,aX,a2,a1]
 iterate 2 (refine An rfl rfl rfl ?_;intro K hK;go_big_quiet_op;go_big_quiet_on)
 iterate 2 (refine Bi rfl rfl rfl ?_;intro K hK;go_big_quiet_op;go_big_quiet_on)
 refine A9 rfl rfl (fun w' a hA=>?_) ?_
 ·exact EY (T #[I J 0,Y O 0 0] 95) (by simp[ch,go_sem]) ⟨w'.heap.size,a.size,rfl,cm _ _⟩
 intro v w' a hv;obtain⟨q,X,rfl,E⟩:=hv;clear a X E w';simp only[Au,aX,a2,a1];refine AH rfl ?_
 iterate 2 (refine Bi rfl rfl rfl ?_;intro K hK;go_big_quiet_op;go_big_quiet_on)
 refine AR ?_;intro t n A;have bq:=A 15 _ (by decide) rfl;obtain⟨bo,E⟩:=Bh.at_ (A 20 _ (by decide) rfl);obtain⟨a3,c3,e3,aI⟩:=bq;injection e3 with e3;simp only[cr,cp,cn,bX,true_and,and_true] at e3;obtain⟨rfl,rfl⟩:=e3;obtain⟨z0,z1⟩:=r2 E;obtain⟨f0,f1⟩:=f2 E;obtain⟨r,aH⟩:=ex ((t.setCell ⟨q,0,O⟩ (I J m)).setCell ⟨q,1,O⟩ (Y l l'.length c2));refine AI (w':=r) (by rw[aH];simp[ch,go_sem,z0,f0,z1,f1]) ?_;unfold A7;have ao:r=setsAt t q 0 [(0,I J m),(1,Y l l'.length c2)]:=aH;have aC:Hq (Bl w r):=by rw[ao];exact DH bo n _
 have aA:r.heap[q]? =Z (T #[I J m,Y l l'.length c2] 95 (0,0)):=by rw[ao];exact Di _ E
 have a8:Hq (Bm r D (Y l l'.length c2) l'):=by rw[ao];exact Gb aI.rd (OS aI E (by simp)) a7.o
 clear aI;clear aH ao n A E z0 f0 z1 f1 aO aE R S p bA bB ah aN;have M:=H.o.below aC.o;have aw:=HJ.o.below aC.o;have aK:q<r.heap.size:=Aa aA;obtain⟨C,j1,F,j3,j4,j5,N⟩:=aw.cells;have p:P<r.heap.size:=Aa aw;have ah:=qC C p;have aN:=qC F p;have ai:=M.Lw aJ;have S:=M.lt;have aO:=qC ai S;have aE:=M.se.cap;have R:=M.se.lt;have bx:=qC (show r.cell? ⟨q,0,O⟩=_ from Cr aA) aK;have bz:=qC (show r.cell? ⟨q,1,O⟩=_ from Cr aA) aK;obtain⟨H1,bE⟩:=H2 M aw;clear M aw C j1 F j3 j4 j5 N ai aA;go_upto_region 2 with (fail);refine AS 16 [15] [] [] trivial ?_
 iterate 15 (refine An rfl rfl rfl ?_;intro K hK;go_big_quiet_op;go_big_quiet_on)
 refine AH rfl ?_;refine AR ?_;intro t n A;clear A;have h9:=H1.o.below n;have F9:∀ o,t.frozen? ⟨j.se.b,o,O⟩=false:=h9.se.frozen aJ;obtain⟨v,ar,_⟩:=h9.se.el k V;have z0:t.cell? ⟨j.se.b,k*2,O⟩=Z _:=ar 0 _ rfl;have f0:=F9 (k*2);have z1:t.cell? ⟨j.se.b,k*2+1,O⟩=Z _:=ar 1 _ rfl;have f1:=F9 (k*2+1);have ay:=h9.Nl V [(0,I J m),(1,Y l l'.length c2)] rfl ar (x:=⟨m,l'⟩) fun w' bj bm=>⟨_,bj,(a8.o.Ag (.C9 n)).Ag bm⟩;obtain⟨L,Q⟩:=ex ((t.setCell ⟨j.se.b,k*2,O⟩ (I J m)).setCell ⟨j.se.b,k*2+1,O⟩ (Y l l'.length c2));refine AI (w':=L) (by rw[Q];simp[ch,go_sem,z0,f0,z1,f1]) ?_;unfold A7;have am:Hq (PA L D g d j {s with semas:=s.semas.set k ⟨m,l'⟩}):=by rw[Q];exact ay.1
 have bG:Hq (Upd (Mut g j) r L):=by rw[Q];exact(Upd.below n).trans ay.2
 have aT:Hq (Upd (Mut g j) w L):=by rw[Q];exact((Upd.below aC.o).trans (Upd.below (n.mono (cb _)))).trans ay.2
 clear Q ay ar F9 h9 n z0 f0 z1 f1 aO aE R S p bx bz ah aN aK;have h2:=am.o;have ax:=HJ.o.BG aT.o bb.o;obtain⟨C,j1,F,j3,j4,j5,N⟩:=ax.cells;have p:P<L.heap.size:=Aa ax;have ah:=qC C p;have bw:=qC N p;have bF:=HH ax;clear h2 ax C j1 F j3 j4 j5 N;go_upto_region 3 with (fail);refine BQ 10 [(9,One L.heap.size (I J y) 3)] ⟨One.AX,trivial⟩ ?_
 iterate 9 (refine AK rfl ?_;intro K hK;go_big_quiet_op;go_big_quiet_on)
 refine Ca rfl (fun w' a hA=>?_) ?_
 ·exact Bn (v:=Y (Z ⟨w'.heap.size,0,O⟩) 1 1) (w':=w'.alloc (T #[I J y] 3)) (by simp[ch,go_sem]) ⟨(Below.refl _ _).alloc (cb _) _,⟨w'.heap.size,a.size,rfl,cm _ _⟩⟩
 intro v w' a hv;obtain⟨q3,bn,rfl,bp⟩:=hv;clear a bn bp w';simp only[Au,aX,a2,a1];refine BN ?_;intro t n A;simp only[ck,cx,cA];have o9:=A 9 _ (by decide) rfl;have aG:=aT.o.trans (Upd.below n);obtain⟨aQ,bf⟩:=H2 (IG B t D g d j _ now (Y O 0 0) (Y (Z ⟨q3,0,O⟩) 1 1) [] [y] (HG.o.BG aG HM.o) HM.o (am.o.below n) bc.o A4.nil ⟨o9.sl (fun q X=>EF am.o X)|>.1,(o9.sl (fun q X=>EF am.o X)).2⟩ (by simp) (fun z hz=>by cases hz) (by simp) (fun z hz=>by simp at hz;subst hz;exact bu) br bs) aG;clear A n aG o9 ah bw p;go_wp2_with fail;refine aQ.o.mono ?_;rintro e w3 ⟨rfl,p3,u3⟩;obtain⟨bd,be⟩:=H2 p3 (bf.o.trans u3);clear p3 u3 aQ;go_wp2_with fail;go_ret;rw[HE.o];exact⟨rfl,bd.o,be.o⟩
def T8:EG 120:=fun _ _=>by kernel_rfl
def Wf(B:Nat)(w:bY)(D:Nat→Prop)(g:Nat)(d:Ad)(a:Hd)(s:Ae)(kind:Int)(k:Nat)(b:Int)(data:List Int)(N:Nat)(vd:a6)(i:Nat)(now:Int)(aP:Gl B w)(hM:∀ q∈Mut g a,B≤q)(h:PA w D g d a s)(ok:Ah d s)(hj:JB w N g kind k b vd i now)(a0:N∉Mut g a)(hD:∀ q,w.heap.size≤q→D q)(bB:0≤now)(bC:now≤4294967296)(X:k<s.events.length)(hi:i<d.procs.length):
  cB prog 81 #[G (Z ⟨N,0,O⟩)] w fun e w'=>e=.returned (.bool true)∧PA w' D g d a (Kk d now (⟨kind,k,b,data⟩:Ac) s)∧Upd (Mut g a) w w':=by
 obtain⟨C,j1,F,j3,j4,j5,M⟩:=hj.cells;have r:N<w.heap.size:=Aa hj;have af:=qC C r;have aN:=qC F r;have aG:0<s.events.length:=by omega
 have ag:=h.Ku aG;have V:=h.lt;have aO:=qC ag V;have aB:=h.ev.cap;have S:=h.ev.lt;have h6:=ok.ok.procs;obtain⟨v,hc,hr⟩:=h.ev.el k X;obtain⟨y0,y1⟩:=cc2 hc;have bH:=qC y0 S;have bI:=qC y1 S;obtain⟨av,cv,rfl,_,_,_⟩:=hr.1.open_;have aw:=(ok.ev _ (bO X));obtain⟨m,l',l,er,hw⟩:∃ m l' l er,DC s.events[k].up s.events[k].wait=(m,l',l,er):=⟨_,_,_,_,rfl⟩;have HC:Hq (∀ W,Bl w W→cB prog 120 #[.agg #[.bool s.events[k].up,.slice av s.events[k].wait.length cv]] W (NO W (.bool m) l' l (I J er))):=fun W c=>by
  have:=Yp s.events[k].up (.slice av s.events[k].wait.length cv) s.events[k].wait W (hr.1.below c) (aw.wf h6) (by have:=aw.len;omega);rwa [hw] at this
 have HE:Hq (Kk d now (⟨kind,k,b,data⟩:Ac) s=wakeP d now [] l {s with events:=s.events.set k ⟨m,l'⟩}):=by
  show Kk d now (⟨kind,k,b,data⟩:Ac) s=_;simp only[Kk,EW,cc,getD_at _ _ X,hw]
 have aa:=Qc (u:=s.events[k].up) aw;rw[hw] at aa;have bi:Hq (Ah d {s with events:=s.events.set k ⟨m,l'⟩}):=ok.Lq k aa.1;have bh:Hq (∀ z∈l,z<(s.procs.length:Int)):=by rw[ok.procs];exact aa.2.1
 have bR:l.length≤6:=cE aa.2.2 h6;clear hw hr aw aa;have bQ:(k:Int)<(s.events.length:Int):=by omega
 obtain⟨H,HJ,bb,HG,HM,bf⟩:=H6 h hj hD aP hM a0;clear h hj hD ok hc aP hM a0 C j1 F j3 j4 j5 M ag y0 y1;go_enter func81,ntmps81;go_upto_region 1 with (fail);refine AS 24 [21] [18,19,22,23] [(15,(fun v w'=>∃ n c2 y c3,v=.tuple #[.agg #[.bool m,Y n l'.length c2],Y y l.length c3,I J er]∧Aq w' w.heap.size (Y n l'.length c2) l'∧OwnI w' w.heap.size (Y y l.length c3) l)),(20,Bh w.heap.size #[.bool false,Y O 0 0] 99)] ⟨(fun v w1 w2 ⟨n,c2,y,c3,e,h,h'⟩ c=>⟨n,c2,y,c3,e,h.below c,CA h' c⟩),Bh.AX,trivial⟩ ?_
 iterate 15 (refine An rfl rfl rfl ?_;intro K hK;go_big_quiet_op;go_big_quiet_on)
 refine A9 rfl rfl (fun w' c hA=>?_) ?_
 ·refine AD (f:=120) (al:=[.agg #[.bool s.events[k].up,.slice av s.events[k].wait.length cv]]) rfl rfl rfl T8 ?_;exact(HC.o w' c).mono fun e w2 h=>by
   obtain⟨u,z,he,hf,ho,bq⟩:=h;obtain⟨n,c2,hu⟩:=Bc hf;obtain⟨y,m3,c3,hz,bw⟩:=MS ho;subst hu hz bw;exact⟨_,he,bq,_,_,_,_,rfl,hf.mono c.size,Cx ho c.size⟩
 intro v w' c hv;obtain⟨n,c2,y,c3,rfl,bt,bx⟩:=hv;clear c bt bx w';simp only[Au,aX,a2,a1]
 iterate 2 (refine An rfl rfl rfl ?_;intro K hK;go_big_quiet_op;go_big_quiet_on)
 iterate 2 (refine Bi rfl rfl rfl ?_;intro K hK;go_big_quiet_op;go_big_quiet_on)
 refine A9 rfl rfl (fun w' c hA=>?_) ?_
 ·exact EY (T #[.bool false,Y O 0 0] 99) (by simp[ch,go_sem]) ⟨w'.heap.size,c.size,rfl,cm _ _⟩
 intro v w' c hv;obtain⟨q,hq,rfl,A⟩:=hv;clear c hq A w';simp only[Au,aX,a2,a1];refine AH rfl ?_
 iterate 2 (refine Bi rfl rfl rfl ?_;intro K hK;go_big_quiet_op;go_big_quiet_on)
 refine AR ?_;intro t j E;have bA:=E 15 _ (by decide) rfl;obtain⟨bz,A⟩:=Bh.at_ (E 20 _ (by decide) rfl);obtain⟨a4,c4,a5,c5,e3,aF,aH⟩:=bA;injection e3 with e3;simp only[cr,cp,cn,bX,true_and,and_true] at e3;obtain⟨⟨rfl,rfl⟩,rfl,rfl⟩:=e3;obtain⟨z0,z1⟩:=r2 A;obtain⟨f0,f1⟩:=f2 A;obtain⟨p,aE⟩:=ex ((t.setCell ⟨q,0,O⟩ (.bool m)).setCell ⟨q,1,O⟩ (Y n l'.length c2));refine AI (w':=p) (by rw[aE];simp[ch,go_sem,z0,f0,z1,f1]) ?_;unfold A7;have Q:p=setsAt t q 0 [(0,.bool m),(1,Y n l'.length c2)]:=aE;have az:Hq (Bl w p):=by rw[Q];exact DH bz j _
 have ax:p.heap[q]? =Z (T #[.bool m,Y n l'.length c2] 99 (0,0)):=by rw[Q];exact Di _ A
 have bc:Hq (Bm p D (Y n l'.length c2) l'):=by rw[Q];exact Gb aF.rd (OS aF A (by simp)) bb.o
 have bg:Hq (Fj p (NM g a) (Y y l.length c3) l):=by rw[Q];exact QL (aH.rd.mono (ct _)) (E9 (Ty.Bw aH) A (by decide)) (fun q hq=>EF H.o hq)
 clear aF aH;clear aE Q j E A z0 f0 z1 f1 aO aB S V r bH bI af aN;have L:=H.o.below az.o;have ap:=HJ.o.below az.o;have aJ:q<p.heap.size:=Aa ax;obtain⟨C,j1,F,j3,j4,j5,M⟩:=ap.cells;have r:N<p.heap.size:=Aa ap;have af:=qC C r;have aN:=qC F r;have ag:=L.Ku aG;have V:=L.lt;have aO:=qC ag V;have aB:=L.ev.cap;have S:=L.ev.lt;have bF:=qC (show p.cell? ⟨q,0,O⟩=_ from Cr ax) aJ;have bG:=qC (show p.cell? ⟨q,1,O⟩=_ from Cr ax) aJ;obtain⟨H1,bL⟩:=H2 L ap;clear L ap C j1 F j3 j4 j5 M ag ax;go_upto_region 2 with (fail);refine AS 16 [15] [] [] trivial ?_
 iterate 15 (refine An rfl rfl rfl ?_;intro K hK;go_big_quiet_op;go_big_quiet_on)
 refine AH rfl ?_;refine AR ?_;intro t j E;clear E;have h9:=H1.o.below j;have F9:∀ o,t.frozen? ⟨a.ev.b,o,O⟩=false:=h9.ev.frozen aG;obtain⟨v,an,_⟩:=h9.ev.el k X;have z0:t.cell? ⟨a.ev.b,k*2,O⟩=Z _:=an 0 _ rfl;have f0:=F9 (k*2);have z1:t.cell? ⟨a.ev.b,k*2+1,O⟩=Z _:=an 1 _ rfl;have f1:=F9 (k*2+1);have ar:=h9.Ls X [(0,.bool m),(1,Y n l'.length c2)] rfl an (x:=⟨m,l'⟩) fun w' br bu=>⟨_,br,(bc.o.Ag (.C9 j)).Ag bu⟩;obtain⟨P,R⟩:=ex ((t.setCell ⟨a.ev.b,k*2,O⟩ (.bool m)).setCell ⟨a.ev.b,k*2+1,O⟩ (Y n l'.length c2));refine AI (w':=P) (by rw[R];simp[ch,go_sem,z0,f0,z1,f1]) ?_;unfold A7;have aT:Hq (PA P D g d a {s with events:=s.events.set k ⟨m,l'⟩}):=by rw[R];exact ar.1
 have bk:Hq (Upd (Mut g a) p P):=by rw[R];exact(Upd.below j).trans ar.2
 have aU:Hq (Upd (Mut g a) w P):=by rw[R];exact((Upd.below az.o).trans (Upd.below (j.mono (cb _)))).trans ar.2
 clear R ar an F9 h9 j z0 f0 z1 f1 aO aB S V r bF bG af aN aJ;have h2:=aT.o;have aq:=HJ.o.BG aU.o bf.o;obtain⟨C,j1,F,j3,j4,j5,M⟩:=aq.cells;have r:N<P.heap.size:=Aa aq;have af:=qC C r;have bE:=qC M r;have bM:=HH aq;clear h2 aq C j1 F j3 j4 j5 M;go_upto_region 3 with (fail);refine BQ 9 [] trivial ?_
 iterate 9 (refine AK rfl ?_;intro K hK;go_big_quiet_op;go_big_quiet_on)
 refine BN ?_;intro t j E;simp only[ck,cx,cA];have aD:=aU.o.trans (Upd.below j);obtain⟨aQ,bm⟩:=H2 (IG B t D g d a _ now (Y O 0 0) (Y y l.length c3) [] l (HG.o.BG aD HM.o) HM.o (aT.o.below j) bi.o A4.nil ((bg.o.Ag (KeepD.nm bk.o)).below j) (by simp) (fun z hz=>by cases hz) (by omega) bh.o bB bC) aD;clear E j aD af bE r;go_wp2_with fail;refine aQ.o.mono ?_;rintro e w3 ⟨rfl,p3,u3⟩;obtain⟨bj,bl⟩:=H2 p3 (bm.o.trans u3);clear p3 u3 aQ;go_wp2_with fail;go_ret;rw[HE.o];exact⟨rfl,bj.o,bl.o⟩
def TC:EG 125:=fun _ _=>by kernel_rfl
def Wi(B:Nat)(w:bY)(D:Nat→Prop)(g:Nat)(d:Ad)(a:Hd)(s:Ae)(kind:Int)(k:Nat)(b:Int)(data:List Int)(R:Nat)(vd:a6)(i:Nat)(now:Int)(aV:Gl B w)(hM:∀ q∈Mut g a,B≤q)(h:PA w D g d a s)(ok:Ah d s)(hj:JB w R g kind k b vd i now)(be:R∉Mut g a)(hD:∀ q,w.heap.size≤q→D q)(bV:0≤now)(bW:now≤4294967296)(hk:k<s.boards.length)(hi:i<d.procs.length)(aL:A4 w (NM g a) vd data)(aK:0<data.length)(cf:data.length≤64)(ba:Bf data):
  cB prog 86 #[G (Z ⟨R,0,O⟩)] w fun e w'=>e=.returned (.bool true)∧PA w' D g d a (Ks d now (⟨kind,k,b,data⟩:Ac) s)∧Upd (Mut g a) w w':=by
 obtain⟨ad,cd,rfl,ce,_,bg⟩:=aL.1.open_;obtain⟨bd,od,rfl,_,bM,a9⟩:=bg aK;have yd:w.cell? ⟨bd,od,O⟩=Z (I U data[0]):=by have:=a9 0 aK;simpa using this
 have qd:=qC yd bM;have cg:(0:Int)<(data.length:Int):=by omega
 have bc:data.getD 0 0=data[0]:=by rw[cw,cz aK];rfl
 obtain⟨br,bs⟩:=H2 aL ba;clear aL ba bg a9 yd;obtain⟨E,j1,L,j3,M,j5,Q⟩:=hj.cells;have l:R<w.heap.size:=Aa hj;have aj:=qC E l;have aS:=qC L l;have aT:=qC M l;have aN:0<s.boards.length:=by omega
 have ak:=h.I7 aN;have ab:=h.lt;have aU:=qC ak ab;have aG:=h.bo.cap;have P:=h.bo.lt;have h6:=ok.ok.procs;obtain⟨v,hc,hr⟩:=h.bo.el k hk;obtain⟨y0,y1,y2⟩:=EO hc;have b4:=qC y0 P;have b5:=qC y1 P;have b6:=qC y2 P;obtain⟨av,cv,rfl,_,_,_⟩:=hr.1.open_;have aC:=(ok.bo _ (bO hk));obtain⟨m,p,l',n,er,hw⟩:∃ m p l' n er,Dh s.boards[k].has s.boards[k].val s.boards[k].wait data[0]=(m,p,l',n,er):=⟨_,_,_,_,_,rfl⟩;have HC:Hq (∀ W,Bl w W→cB prog 125 #[.agg #[.bool s.boards[k].has,I U s.boards[k].val,.slice av s.boards[k].wait.length cv],I U data[0]] W (NI W m p l' n (I J er))):=fun W c=>by
  have:=YQ s.boards[k].has s.boards[k].val data[0] (.slice av s.boards[k].wait.length cv) s.boards[k].wait W (hr.1.below c) (aC.wf h6) (by have:=aC.len;omega);rwa [hw] at this
 have HE:Hq (Ks d now (⟨kind,k,b,data⟩:Ac) s=wakeP d now data n {s with boards:=s.boards.set k ⟨m,p,l'⟩}):=by
  show Ks d now (⟨kind,k,b,data⟩:Ac) s=_;simp only[Ks,boA,cc,getD_at _ _ hk,bc,hw]
 have ae:=Qt (b:=s.boards[k].has) (x:=s.boards[k].val) (v:=data[0]) aC;rw[hw] at ae;have bC:Hq (Ah d {s with boards:=s.boards.set k ⟨m,p,l'⟩}):=ok.Km k ae.1;have bB:Hq (∀ z∈n,z<(s.procs.length:Int)):=by rw[ok.procs];exact ae.2.1
 have cj:n.length≤6:=cE ae.2.2 h6;clear hw hr aC ae bc;have ci:(k:Int)<(s.boards.length:Int):=by omega
 obtain⟨H,HJ,bt,HG,HM,bz⟩:=H6 h hj hD aV hM be;clear h hj hD ok hc aV hM be E j1 L j3 M j5 Q ak y0 y1 y2;go_enter func86,ntmps86;go_upto_region 1 with (fail);refine AS 31 [28] [25,26,29,30] [(22,(fun v w'=>∃ t c2 A c3,v=.tuple #[.agg #[.bool m,I U p,Y t l'.length c2],Y A n.length c3,I J er]∧Ax w' w.heap.size (Y t l'.length c2) l'∧OwnI w' w.heap.size (Y A n.length c3) n)),(27,Bh w.heap.size #[.bool false,I U 0,Y O 0 0] 103)] ⟨(fun v w1 w2 ⟨t,c2,A,c3,e,h,h'⟩ c=>⟨t,c2,A,c3,e,Ty.below h c,CA h' c⟩),Bh.AX,trivial⟩ ?_
 iterate 22 (refine An rfl rfl rfl ?_;intro K hK;go_big_quiet_op;go_big_quiet_on)
 refine A9 rfl rfl (fun w' c hA=>?_) ?_
 ·refine AD (f:=125) (al:=[.agg #[.bool s.boards[k].has,I U s.boards[k].val,.slice av s.boards[k].wait.length cv],I U data[0]]) rfl rfl rfl TC ?_;exact(HC.o w' c).mono fun e w2 h=>by
   obtain⟨u,z,he,hf,ho,bL⟩:=h;obtain⟨t,c2,hu⟩:=Bc hf.fr;obtain⟨A,m3,c3,hz,bR⟩:=MS ho;subst hu hz bR;exact⟨_,he,bL,_,_,_,_,rfl,Ty.mono hf c.size,Cx ho c.size⟩
 intro v w' c hv;obtain⟨t,c2,A,c3,rfl,bP,bS⟩:=hv;clear c bP bS w';simp only[Au,aX,a2,a1]
 iterate 2 (refine An rfl rfl rfl ?_;intro K hK;go_big_quiet_op;go_big_quiet_on)
 iterate 2 (refine Bi rfl rfl rfl ?_;intro K hK;go_big_quiet_op;go_big_quiet_on)
 refine A9 rfl rfl (fun w' c hA=>?_) ?_
 ·exact EY (T #[.bool false,I U 0,Y O 0 0] 103) (by simp[ch,go_sem]) ⟨w'.heap.size,c.size,rfl,cm _ _⟩
 intro v w' c hv;obtain⟨q,hq,rfl,C⟩:=hv;clear c hq C w';simp only[Au,aX,a2,a1];refine AH rfl ?_
 iterate 2 (refine Bi rfl rfl rfl ?_;intro K hK;go_big_quiet_op;go_big_quiet_on)
 refine AR ?_;intro y j F;have bU:=F 22 _ (by decide) rfl;obtain⟨bT,C⟩:=Bh.at_ (F 27 _ (by decide) rfl);obtain⟨a4,c4,a5,c5,e3,aM,aO⟩:=bU;injection e3 with e3;simp only[cr,cp,cn,bX,true_and,and_true] at e3;obtain⟨⟨rfl,rfl⟩,rfl,rfl⟩:=e3;obtain⟨z0,z1,z2⟩:=r3 C;obtain⟨f0,f1,f2⟩:=f3 C;obtain⟨r,aJ⟩:=ex (((y.setCell ⟨q,0,O⟩ (.bool m)).setCell ⟨q,1,O⟩ (I U p)).setCell ⟨q,2,O⟩ (Y t l'.length c2));refine AI (w':=r) (by rw[aJ];simp[ch,go_sem,z0,f0,z1,f1,z2,f2]) ?_;unfold A7;have V:r=setsAt y q 0 [(0,.bool m),(1,I U p),(2,Y t l'.length c2)]:=aJ;have aD:Hq (Bl w r):=by rw[V];exact DH bT j _
 have ai:r.heap[q]? =Z (T #[.bool m,I U p,Y t l'.length c2] 103 (0,0)):=by rw[V];exact Di _ C
 have bu:Hq (Bm r D (Y t l'.length c2) l'):=by rw[V];exact Gb aM.rd (E9 aM C (by decide)) bt.o
 have bA:Hq (Fj r (NM g a) (Y A n.length c3) n):=by rw[V];exact QL (aO.rd.mono (ct _)) (E9 (Ty.Bw aO) C (by decide)) (fun q hq=>EF H.o hq)
 clear aM aO;clear aJ V j F C z0 f0 z1 f1 z2 f2 aU aG P ab l b4 b5 b6 aj aS aT qd;have N:=H.o.below aD.o;have ax:=HJ.o.below aD.o;have aA:q<r.heap.size:=Aa ai;obtain⟨E,j1,L,j3,M,j5,Q⟩:=ax.cells;have l:R<r.heap.size:=Aa ax;have aj:=qC E l;have aS:=qC L l;have ak:=N.I7 aN;have ab:=N.lt;have aU:=qC ak ab;have aG:=N.bo.cap;have P:=N.bo.lt;have b1:=qC (show r.cell? ⟨q,0,O⟩=_ from Cr ai) aA;have b2:=qC (show r.cell? ⟨q,1,O⟩=_ from Cr ai) aA;have b3:=qC (show r.cell? ⟨q,2,O⟩=_ from Cr ai) aA;obtain⟨H1,b8⟩:=H2 N ax;clear N ax E j1 L j3 M j5 Q ak ai;go_upto_region 2 with (fail);refine AS 16 [15] [] [] trivial ?_
 iterate 15 (refine An rfl rfl rfl ?_;intro K hK;go_big_quiet_op;go_big_quiet_on)
 refine AH rfl ?_;refine AR ?_;intro y j F;clear F;have h9:=H1.o.below j;have F9:∀ o,y.frozen? ⟨a.bo.b,o,O⟩=false:=h9.bo.frozen aN;obtain⟨v,aa,_⟩:=h9.bo.el k hk;have z0:y.cell? ⟨a.bo.b,k*3,O⟩=Z _:=aa 0 _ rfl;have f0:=F9 (k*3);have z1:y.cell? ⟨a.bo.b,k*3+1,O⟩=Z _:=aa 1 _ rfl;have f1:=F9 (k*3+1);have z2:y.cell? ⟨a.bo.b,k*3+2,O⟩=Z _:=aa 2 _ rfl;have f2:=F9 (k*3+2);have az:=h9.Kq hk [(0,.bool m),(1,I U p),(2,Y t l'.length c2)] rfl aa (x:=⟨m,p,l'⟩) fun w' bN bQ=>⟨_,bN,(bu.o.Ag (.C9 j)).Ag bQ⟩;obtain⟨S,X⟩:=ex (((y.setCell ⟨a.bo.b,k*3,O⟩ (.bool m)).setCell ⟨a.bo.b,k*3+1,O⟩ (I U p)).setCell ⟨a.bo.b,k*3+2,O⟩ (Y t l'.length c2));refine AI (w':=S) (by rw[X];simp[ch,go_sem,z0,f0,z1,f1,z2,f2]) ?_;unfold A7;have aZ:Hq (PA S D g d a {s with boards:=s.boards.set k ⟨m,p,l'⟩}):=by rw[X];exact az.1
 have bE:Hq (Upd (Mut g a) r S):=by rw[X];exact(Upd.below j).trans az.2
 have aE:Hq (Upd (Mut g a) w S):=by rw[X];exact((Upd.below aD.o).trans (Upd.below (j.mono (cb _)))).trans az.2
 clear X az aa F9 h9 j z0 f0 z1 f1 z2 f2 aU aG P ab l b1 b2 b3 aj aS aA;have h2:=aZ.o;have ay:=HJ.o.BG aE.o bz.o;obtain⟨E,j1,L,j3,M,j5,Q⟩:=ay.cells;have l:R<S.heap.size:=Aa ay;have aj:=qC E l;have aT:=qC M l;have b0:=qC Q l;have b9:=HH ay;clear h2 ay E j1 L j3 M j5 Q;go_upto_region 3 with (fail);refine BQ 14 [] trivial ?_
 iterate 14 (refine AK rfl ?_;intro K hK;go_big_quiet_op;go_big_quiet_on)
 refine BN ?_;intro y j F;simp only[ck,cx,cA];have aI:=aE.o.trans (Upd.below j);obtain⟨aW,bG⟩:=H2 (IG B y D g d a _ now (Y (Z ⟨bd,od,O⟩) data.length cd) (Y A n.length c3) data n (HG.o.BG aI HM.o) HM.o (aZ.o.below j) bC.o ((br.o.Ag (KeepD.nm aE.o)).below j) ((bA.o.Ag (KeepD.nm bE.o)).below j) (by omega) bs.o (by omega) bB.o bV bW) aI;clear F j aI aj aT b0 l;go_wp2_with fail;refine aW.o.mono ?_;rintro e w3 ⟨rfl,p3,u3⟩;obtain⟨bD,bF⟩:=H2 p3 (bG.o.trans u3);clear p3 u3 aW;go_wp2_with fail;go_ret;rw[HE.o];exact⟨rfl,bD.o,bF.o⟩
end Go.Proofs.YtiepijihpgijbaaGreatDoor
